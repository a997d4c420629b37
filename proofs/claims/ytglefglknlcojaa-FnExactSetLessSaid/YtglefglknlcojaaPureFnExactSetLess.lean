/- The program's SetLess returns what the reference's SetLess returns, for all arguments, and leaves them alone; no conditions. -/
import Derived.Test.YtglefglknlcojaaPFnExactSetLessx2
import Derived.Test.YtglefglknlcojaaM0
import Derived.Test.YtglefglknlcojaaM1
import Derived.Test.YtglefglknlcojaaM2
import Derived.Test.YtglefglknlcojaaM3
import Derived.Test.YtglefglknlcojaaM4
import Derived.Test.YtglefglknlcojaaM5
set_option linter.unusedVariables false
set_option linter.unusedSimpArgs false
namespace Go.Proofs.Ytglefglknlcojaa.Pure
open Go.RowKit Go.Proofs.Ytglefglknlcojaa.PFnExactSetLess Go.Proofs.YtglefglknlcojaaW.PrintWords Go.Proofs.YtglefglknlcojaaW.PrintLast Go.Proofs.Ytglefglknlcojaa.M0 Go.Proofs.Ytglefglknlcojaa.M1 Go.Proofs.Ytglefglknlcojaa.M2 Go.Proofs.Ytglefglknlcojaa.M3 Go.Proofs.Ytglefglknlcojaa.M4 Go.Proofs.Ytglefglknlcojaa.M5

/-! ### LabS -/
def labOf (x : S80) : S81 := ⟨x.f0, x.f1⟩
def labsOf (l : List S80) : List S81 := l.map labOf
def szLab (x : S80) : Nat := x.f0.size + x.f1.size
def szL (l : List S80) : Nat := l.length + (l.map szLab).sum
/-- Sizes that Go knows. -/
def WfL (l : List S80) : Prop := l.length ≤ 9223372036854775807 ∧ ∀ x ∈ l, x.f0.size ≤ 9223372036854775807 ∧ x.f1.size ≤ 9223372036854775807
theorem labsOf_length (l : List S80) : (labsOf l).length = l.length := by simp [labsOf]
theorem len_le_szL (l : List S80) : l.length ≤ szL l := by unfold szL; omega
theorem sum_mem {α : Type} (f : α → Nat) : ∀ (l : List α) (x : α), x ∈ l → f x ≤ (l.map f).sum
  | [], x, h => by simp at h
  | a :: l, x, h => by
    rcases List.mem_cons.1 h with rfl | h
    · simp
    · have := sum_mem f l x h
      simp only [List.map_cons, List.sum_cons]
      omega
theorem laws_szLabel_eq (a b : ByteArray) (ha : a.size ≤ 9223372036854775807) (hb : b.size ≤ 9223372036854775807) (left : Int) (h0 : 0 ≤ left) (h1 : left ≤ 1048576) : laws_szLabel.f a b left = some (left' (a.size + b.size) left) := by
  unfold laws_szLabel.f
  rw [← left_add _ _ _ h0, left_of_wrap ha h0 h1 (fun t => if (wrap64 (t - (b.size : Int))) < 0 then (some (-1)) else (some (wrap64 (t - (b.size : Int)))))]
  by_cases hz : left' a.size left < 0
  · rw [if_pos hz, if_pos hz]
  · rw [if_neg hz, if_neg hz]
    have hle := left_ge h0 hz
    have e : left' a.size left = left - a.size := by unfold left'; rw [if_pos hle]
    rw [left_of_wrap hb (by omega) (by omega) (fun t => some t)]
    by_cases hy : left' b.size (left' a.size left) < 0
    · rw [if_pos hy]
      rw [left_neg_one (by omega) hy]
    · rw [if_neg hy]
theorem rdML_mem (l : List S80) (i : Int) (h0 : 0 ≤ i) (h1 : i < (l.length : Int)) : rd_T80 l i ∈ l := by
  unfold rd_T80
  rw [List.getD_eq_getElem?_getD, List.getElem?_eq_getElem (by omega)]
  exact List.getElem_mem (by omega)
theorem laws_szLabelS_eq (l : List S80) (hl : WfL l) (left : Int) (h0 : 0 ≤ left) (h1 : left ≤ 1048576) (k : Nat) (hk : 1048577 < k) :
    laws_szLabelS.f k l left = some (left' (szL l) left) := by
  unfold laws_szLabelS.f szL
  rw [left_of_wrap (n := l.length) hl.1 h0 h1 (fun t => laws_szLabelS.l0 k l t 0), ← left_add _ _ _ h0]
  by_cases hz : left' l.length left < 0
  · rw [if_pos hz, if_pos hz]
  · rw [if_neg hz, if_neg hz]
    have hle := left_ge h0 hz
    rw [budget_loop l (by omega) szLab z80 0 (fun k t i => laws_szLabelS.l0 k l t i) ?_ ?_ l.length k 0 _ (by omega) (by omega) (by omega) (left_le h1) (by omega)]
    · simp
    · intro k i left _ hi hi' hl0 hl1
      have hm := hl.2 _ (rdML_mem l i hi hi')
      simp only [laws_szLabelS.l0]
      rw [if_pos hi', if_pos hi, laws_szLabel_eq _ _ hm.1 hm.2 _ hl0 hl1]
      rfl
    · intro k left _
      simp only [laws_szLabelS.l0]
      rw [if_neg (by omega)]
theorem laws_toLabelS_eq (l : List S80) (hl : l.length ≤ 1048576) (k : Nat) (hk : 1048577 < k) : laws_toLabelS.f k l = some (labsOf l) := by
  unfold laws_toLabelS.f
  rw [if_pos (by omega), if_pos (by omega)]
  have h := fill_loop l (by omega) labOf z80 0 (fun k out i => laws_toLabelS.l0 k l out i) ?_ ?_ k z81 (by omega)
  · exact h
  · intro k i out _ hi hi' ho
    simp only [laws_toLabelS.l0]
    rw [if_pos hi', if_pos hi]
    simp only [laws_toLabel.f, Option.bind_some]
    rw [if_pos (by omega)]
    rfl
  · intro k out _
    simp only [laws_toLabelS.l0]
    rw [if_neg (by omega)]
theorem sized_labs (l : List S80) (h : szL l ≤ 1048576) : ∀ x ∈ labsOf l, x.f0.size ≤ 1048576 ∧ x.f1.size ≤ 1048576 := by
  intro x hx
  obtain ⟨y, hy, rfl⟩ := List.mem_map.1 hx
  have := sum_mem szLab l y hy
  have h1 : y.f0.size + y.f1.size ≤ (l.map szLab).sum := this
  unfold szL at h
  show y.f0.size ≤ _ ∧ y.f1.size ≤ _
  omega

/-! ### EqL -/
theorem laws_eqLabelS_refl (l : List S81) (hl : l.length ≤ 140737488351232) (k : Nat) (hk : l.length < k) : laws_eqLabelS.f k l l = some true := by
  unfold laws_eqLabelS.f
  rw [if_pos rfl]
  rw [all_loop (n := l.length) (by omega) 0 (fun _ => true) (fun k i => laws_eqLabelS.l0 k l l i) (some true) ?_ ?_ l.length k 0 (by omega) (by omega) (by omega) (by omega)]
  · rw [allFrom_true (fun _ => rfl)]; rfl
  · intro k i _ h0 h1
    simp only [laws_eqLabelS.l0]
    rw [if_pos h1, if_pos h0, if_pos h1]
    simp only [laws_eqLabel.f, Option.bind_some, if_true]
  · intro k _
    simp only [laws_eqLabelS.l0]
    rw [if_neg (by omega)]

/-! ### SetLess -/
def less2 (x y : S81) : Option Bool :=
  if x.f0.toList = y.f0.toList then (if x.f1.toList = y.f1.toList then none else some (Op.bytesLess x.f1.toList y.f1.toList)) else some (Op.bytesLess x.f0.toList y.f0.toList)
def setLess : List S81 → List S81 → Bool
  | [], [] => false
  | [], _ :: _ => true
  | _ :: _, [] => false
  | x :: a, y :: b => match less2 x y with
    | some r => r
    | none => setLess a b
theorem spec_SetLess_l (a b : List S81) (ha : a.length ≤ 140737488351232) (d : Nat) : ∀ (k : Nat) (i : Int), 0 ≤ i → i + d = (a.length : Int) → i ≤ (b.length : Int) → 2 * d + 2 < k → spec_SetLess.l0 k a b i = some (setLess (a.drop i.toNat) (b.drop i.toNat)) := by
  induction d with
  | zero =>
    intro k i h0 hd hb hk
    obtain ⟨k, rfl⟩ : ∃ m, k = m + 2 := ⟨k - 2, by omega⟩
    simp only [spec_SetLess.l0, spec_SetLess.j1]
    rw [if_neg (by omega), if_neg (by simp), List.drop_eq_nil_of_le (by omega)]
    cases e : b.drop i.toNat with
    | nil =>
      have := List.drop_eq_nil_iff.1 e
      rw [decide_eq_false (by omega)]; rfl
    | cons y b' =>
      have : (b.drop i.toNat).length = b'.length + 1 := by rw [e]; simp
      rw [List.length_drop] at this
      rw [decide_eq_true (by omega)]; rfl
  | succ d ih =>
    intro k i h0 hd hb hk
    obtain ⟨k, rfl⟩ : ∃ m, k = m + 2 := ⟨k - 2, by omega⟩
    simp only [spec_SetLess.l0, spec_SetLess.j1]
    rw [if_pos (by omega), drop_cons z81 a i h0 (by omega)]
    by_cases hi : i < (b.length : Int)
    · rw [if_pos (decide_eq_true hi), if_pos h0, if_pos (by omega), if_pos hi, drop_cons z81 b i h0 hi]
      show (if (a.getD i.toNat z81).f0.toList = (b.getD i.toNat z81).f0.toList then (if (a.getD i.toNat z81).f1.toList = (b.getD i.toNat z81).f1.toList then _ else _) else _) = _
      simp only [setLess, less2]
      by_cases h1 : (a.getD i.toNat z81).f0.toList = (b.getD i.toNat z81).f0.toList
      · rw [if_pos h1, if_pos h1]
        by_cases h2 : (a.getD i.toNat z81).f1.toList = (b.getD i.toNat z81).f1.toList
        · rw [if_pos h2, if_pos h2, w64 (by omega) (by omega)]
          exact ih k (i + 1) (by omega) (by omega) (by omega) (by omega)
        · rw [if_neg h2, if_neg h2]; rfl
      · rw [if_neg h1, if_neg h1]; rfl
    · rw [if_neg (by simpa using hi), decide_eq_false (by omega), show b.drop i.toNat = [] from List.drop_eq_nil_of_le (by omega)]
      rfl
theorem impl_SetLess_l (a b : List S81) (ha : a.length ≤ 140737488351232) (d : Nat) : ∀ (k : Nat) (i : Int), 0 ≤ i → i + d = (a.length : Int) → i ≤ (b.length : Int) → 2 * d + 2 < k → impl_SetLess.l0 k a b i = some (setLess (a.drop i.toNat) (b.drop i.toNat)) := by
  induction d with
  | zero =>
    intro k i h0 hd hb hk
    obtain ⟨k, rfl⟩ : ∃ m, k = m + 2 := ⟨k - 2, by omega⟩
    simp only [impl_SetLess.l0, impl_SetLess.j1]
    rw [if_neg (by omega), if_neg (by simp), List.drop_eq_nil_of_le (by omega)]
    cases e : b.drop i.toNat with
    | nil =>
      have := List.drop_eq_nil_iff.1 e
      rw [decide_eq_false (by omega)]; rfl
    | cons y b' =>
      have : (b.drop i.toNat).length = b'.length + 1 := by rw [e]; simp
      rw [List.length_drop] at this
      rw [decide_eq_true (by omega)]; rfl
  | succ d ih =>
    intro k i h0 hd hb hk
    obtain ⟨k, rfl⟩ : ∃ m, k = m + 2 := ⟨k - 2, by omega⟩
    simp only [impl_SetLess.l0, impl_SetLess.j1]
    rw [if_pos (by omega), drop_cons z81 a i h0 (by omega)]
    by_cases hi : i < (b.length : Int)
    · rw [if_pos (decide_eq_true hi), if_pos h0, if_pos (by omega), if_pos hi, drop_cons z81 b i h0 hi]
      show (if (a.getD i.toNat z81).f0.toList = (b.getD i.toNat z81).f0.toList then (if (a.getD i.toNat z81).f1.toList = (b.getD i.toNat z81).f1.toList then _ else _) else _) = _
      simp only [setLess, less2]
      by_cases h1 : (a.getD i.toNat z81).f0.toList = (b.getD i.toNat z81).f0.toList
      · rw [if_pos h1, if_pos h1]
        by_cases h2 : (a.getD i.toNat z81).f1.toList = (b.getD i.toNat z81).f1.toList
        · rw [if_pos h2, if_pos h2, w64 (by omega) (by omega)]
          exact ih k (i + 1) (by omega) (by omega) (by omega) (by omega)
        · rw [if_neg h2, if_neg h2]; rfl
      · rw [if_neg h1, if_neg h1]; rfl
    · rw [if_neg (by simpa using hi), decide_eq_false (by omega), show b.drop i.toNat = [] from List.drop_eq_nil_of_le (by omega)]
      rfl
theorem spec_SetLess_eq (a b : List S81) (ha : a.length ≤ 140737488351232) (k : Nat) (hk : 2 * a.length + 2 < k) : spec_SetLess.f k a b = some (setLess a b) :=
  spec_SetLess_l a b ha a.length k 0 (by omega) (by omega) (by omega) hk
theorem impl_SetLess_eq (a b : List S81) (ha : a.length ≤ 140737488351232) (k : Nat) (hk : 2 * a.length + 2 < k) : impl_SetLess.f k a b = some (setLess a b) :=
  impl_SetLess_l a b ha a.length k 0 (by omega) (by omega) (by omega) hk

theorem FnExactSetLess (a : List S80) (b : List S80) (ha : WfL a) (hb : WfL b) : ∃ k, laws_FnExactSetLess.f k a b = some true := by
  obtain ⟨m, hm⟩ : ∃ m : Nat, 4194304 < m := ⟨4194305, by omega⟩
  have hm1 : 4194304 < m + 1 := by omega
  have hm2 : 4194304 < m + 2 := by omega
  have hm11 : 4194304 < m + 1 + 1 := by omega
  refine ⟨m + 2, ?_⟩
  unfold laws_FnExactSetLess.f
  obtain ⟨left1, hleft1⟩ : ∃ x, x = left' (szL a) 1048576 := ⟨_, rfl⟩
  rw [laws_szLabelS_eq a ha _ (by omega) (by omega) _ (by omega), ← hleft1]
  simp only [Option.bind_some]
  by_cases hz1 : left1 < 0
  · rw [if_pos hz1]
  rw [if_neg hz1]
  have hb1 : ((szL a : Nat) : Int) ≤ 1048576 := left_ge (by omega) (by rw [← hleft1]; exact hz1)
  have hc1 : left1 ≤ 1048576 := by rw [hleft1]; exact left_le (by omega)
  obtain ⟨left2, hleft2⟩ : ∃ x, x = left' (szL b) left1 := ⟨_, rfl⟩
  rw [laws_szLabelS_eq b hb _ (by omega) (by omega) _ (by omega), ← hleft2]
  simp only [Option.bind_some]
  by_cases hz2 : left2 < 0
  · rw [if_pos hz2]
  rw [if_neg hz2]
  have hb2 : ((szL b : Nat) : Int) ≤ left1 := left_ge (by omega) (by rw [← hleft2]; exact hz2)
  have hc2 : left2 ≤ 1048576 := by rw [hleft2]; exact left_le (by omega)
  clear hleft1
  clear hleft2
  have la : a.length ≤ 1048576 := by have := len_le_szL a; omega
  have qa : (labsOf a).length ≤ 1048576 := by rw [labsOf_length]; exact la
  have za := sized_labs a (by omega)
  have ta : ∀ k, 4194304 < k → laws_toLabelS.f k a = some (labsOf a) := fun k hk => laws_toLabelS_eq a la k (by omega)
  have ea : ∀ k, 4194304 < k → laws_eqLabelS.f k (labsOf a) (labsOf a) = some true := fun k hk => laws_eqLabelS_refl _ (by omega) k (by omega)
  have lb : b.length ≤ 1048576 := by have := len_le_szL b; omega
  have qb : (labsOf b).length ≤ 1048576 := by rw [labsOf_length]; exact lb
  have zb := sized_labs b (by omega)
  have tb : ∀ k, 4194304 < k → laws_toLabelS.f k b = some (labsOf b) := fun k hk => laws_toLabelS_eq b lb k (by omega)
  have eb : ∀ k, 4194304 < k → laws_eqLabelS.f k (labsOf b) (labsOf b) = some true := fun k hk => laws_eqLabelS_refl _ (by omega) k (by omega)
  have sF : ∀ k, 4194304 < k → spec_SetLess.f k (labsOf a) (labsOf b) = some (setLess (labsOf a) (labsOf b)) := fun k hk => spec_SetLess_eq _ _ (by omega) k (by omega)
  have iF : ∀ k, 4194304 < k → impl_SetLess.f k (labsOf a) (labsOf b) = some (setLess (labsOf a) (labsOf b)) := fun k hk => impl_SetLess_eq _ _ (by omega) k (by omega)
  simp only [sF, iF, ta, tb, ea, eb, hm, hm1, hm2, hm11, Option.bind_some, bne_self_eq_false, beq_self_eq_true, if_true, Bool.false_eq_true, if_false, Bool.not_true, Bool.not_false]

end Go.Proofs.Ytglefglknlcojaa.Pure
