/- The program's Together returns what the reference's Together returns, for all arguments, and leaves them alone; no conditions. -/
import Derived.Test.YtglefglknlcojabPFnExactTogetherx6
import Derived.Test.YtglefglknlcojabM0
import Derived.Test.YtglefglknlcojabM1
import Derived.Test.YtglefglknlcojabM2
import Derived.Test.YtglefglknlcojabM3
import Derived.Test.YtglefglknlcojabM4
import Derived.Test.YtglefglknlcojabM5
set_option linter.unusedVariables false
set_option linter.unusedSimpArgs false
namespace Go.Proofs.Ytglefglknlcojab.Pure
open Go.RowKit Go.Proofs.Ytglefglknlcojab.PFnExactTogether Go.Proofs.YtglefglknlcojabW.PrintWords Go.Proofs.YtglefglknlcojabW.PrintLast Go.Proofs.Ytglefglknlcojab.M0 Go.Proofs.Ytglefglknlcojab.M1 Go.Proofs.Ytglefglknlcojab.M2 Go.Proofs.Ytglefglknlcojab.M3 Go.Proofs.Ytglefglknlcojab.M4 Go.Proofs.Ytglefglknlcojab.M5

/-! ### LabS -/
def labOf (x : S88) : S90 := ⟨x.f0, x.f1⟩
def labsOf (l : List S88) : List S90 := l.map labOf
def szLab (x : S88) : Nat := x.f0.size + x.f1.size
def szL (l : List S88) : Nat := l.length + (l.map szLab).sum
/-- Sizes that Go knows. -/
def WfL (l : List S88) : Prop := l.length ≤ 9223372036854775807 ∧ ∀ x ∈ l, x.f0.size ≤ 9223372036854775807 ∧ x.f1.size ≤ 9223372036854775807
theorem labsOf_length (l : List S88) : (labsOf l).length = l.length := by simp [labsOf]
theorem len_le_szL (l : List S88) : l.length ≤ szL l := by unfold szL; omega
theorem sum_mem {α : Type} (f : α → Nat) : ∀ (l : List α) (x : α), x ∈ l → f x ≤ (l.map f).sum
  | [], x, h => by simp at h
  | a :: l, x, h => by
    rcases List.mem_cons.1 h with rfl | h
    · simp
    · have := sum_mem f l x h
      simp only [List.map_cons, List.sum_cons]
      omega
theorem laws_szLabel_eq (a b : ByteArray) (ha : a.size ≤ 9223372036854775807) (hb : b.size ≤ 9223372036854775807) (left : Int) (h0 : 0 ≤ left) (h1 : left ≤ 1048576) : laws_szLabel.f a b left = some (left' (a.size + b.size) left) := by
  unfold laws_szLabel.f
  rw [← left_add _ _ _ h0, left_of_wrap ha h0 h1 (fun t => if (wrap64 (t - (b.size : Int))) < 0 then (some (-1)) else (some (wrap64 (t - (b.size : Int)))))]
  by_cases hz : left' a.size left < 0
  · rw [if_pos hz, if_pos hz]
  · rw [if_neg hz, if_neg hz]
    have hle := left_ge h0 hz
    have e : left' a.size left = left - a.size := by unfold left'; rw [if_pos hle]
    rw [left_of_wrap hb (by omega) (by omega) (fun t => some t)]
    by_cases hy : left' b.size (left' a.size left) < 0
    · rw [if_pos hy]
      rw [left_neg_one (by omega) hy]
    · rw [if_neg hy]
theorem rdML_mem (l : List S88) (i : Int) (h0 : 0 ≤ i) (h1 : i < (l.length : Int)) : rd_T88 l i ∈ l := by
  unfold rd_T88
  rw [List.getD_eq_getElem?_getD, List.getElem?_eq_getElem (by omega)]
  exact List.getElem_mem (by omega)
theorem laws_szLabelS_eq (l : List S88) (hl : WfL l) (left : Int) (h0 : 0 ≤ left) (h1 : left ≤ 1048576) (k : Nat) (hk : 1048577 < k) :
    laws_szLabelS.f k l left = some (left' (szL l) left) := by
  unfold laws_szLabelS.f szL
  rw [left_of_wrap (n := l.length) hl.1 h0 h1 (fun t => laws_szLabelS.l0 k l t 0), ← left_add _ _ _ h0]
  by_cases hz : left' l.length left < 0
  · rw [if_pos hz, if_pos hz]
  · rw [if_neg hz, if_neg hz]
    have hle := left_ge h0 hz
    rw [budget_loop l (by omega) szLab z88 0 (fun k t i => laws_szLabelS.l0 k l t i) ?_ ?_ l.length k 0 _ (by omega) (by omega) (by omega) (left_le h1) (by omega)]
    · simp
    · intro k i left _ hi hi' hl0 hl1
      have hm := hl.2 _ (rdML_mem l i hi hi')
      simp only [laws_szLabelS.l0]
      rw [if_pos hi', if_pos hi, laws_szLabel_eq _ _ hm.1 hm.2 _ hl0 hl1]
      rfl
    · intro k left _
      simp only [laws_szLabelS.l0]
      rw [if_neg (by omega)]
theorem laws_toLabelS_eq (l : List S88) (hl : l.length ≤ 1048576) (k : Nat) (hk : 1048577 < k) : laws_toLabelS.f k l = some (labsOf l) := by
  unfold laws_toLabelS.f
  rw [if_pos (by omega), if_pos (by omega)]
  have h := fill_loop l (by omega) labOf z88 0 (fun k out i => laws_toLabelS.l0 k l out i) ?_ ?_ k z90 (by omega)
  · exact h
  · intro k i out _ hi hi' ho
    simp only [laws_toLabelS.l0]
    rw [if_pos hi', if_pos hi]
    simp only [laws_toLabel.f, Option.bind_some]
    rw [if_pos (by omega)]
    rfl
  · intro k out _
    simp only [laws_toLabelS.l0]
    rw [if_neg (by omega)]
theorem sized_labs (l : List S88) (h : szL l ≤ 1048576) : ∀ x ∈ labsOf l, x.f0.size ≤ 1048576 ∧ x.f1.size ≤ 1048576 := by
  intro x hx
  obtain ⟨y, hy, rfl⟩ := List.mem_map.1 hx
  have := sum_mem szLab l y hy
  have h1 : y.f0.size + y.f1.size ≤ (l.map szLab).sum := this
  unfold szL at h
  show y.f0.size ≤ _ ∧ y.f1.size ≤ _
  omega

/-! ### EqL -/
theorem laws_eqLabelS_refl (l : List S90) (hl : l.length ≤ 140737488351232) (k : Nat) (hk : l.length < k) : laws_eqLabelS.f k l l = some true := by
  unfold laws_eqLabelS.f
  rw [if_pos rfl]
  rw [all_loop (n := l.length) (by omega) 0 (fun _ => true) (fun k i => laws_eqLabelS.l0 k l l i) (some true) ?_ ?_ l.length k 0 (by omega) (by omega) (by omega) (by omega)]
  · rw [allFrom_true (fun _ => rfl)]; rfl
  · intro k i _ h0 h1
    simp only [laws_eqLabelS.l0]
    rw [if_pos h1, if_pos h0, if_pos h1]
    simp only [laws_eqLabel.f, Option.bind_some, if_true]
  · intro k _
    simp only [laws_eqLabelS.l0]
    rw [if_neg (by omega)]

/-! ### AlarmS -/
def WfA (l : List S88) (note : ByteArray) : Prop := WfL l ∧ note.size ≤ 9223372036854775807
theorem laws_szAlarm_eq (l : List S88) (s e : Int) (note : ByteArray) (h : WfL l) (hn : note.size ≤ 9223372036854775807) (left : Int) (h0 : 0 ≤ left) (h1 : left ≤ 1048576) (k : Nat) (hk : 1048577 < k) :
    laws_szAlarm.f k l s e note left = some (left' (szL l + note.size) left) := by
  unfold laws_szAlarm.f
  rw [laws_szLabelS_eq l h left h0 h1 k hk, ← left_add _ _ _ h0]
  simp only [Option.bind_some]
  by_cases hz : left' (szL l) left < 0
  · rw [if_pos hz, if_pos hz]
  · rw [if_neg hz, if_neg hz]
    have hle := left_le (t := szL l) h1
    rw [left_of_wrap hn (by omega) hle (fun t => some t)]
    by_cases hy : left' note.size (left' (szL l) left) < 0
    · rw [if_pos hy, left_neg_one (by omega) hy]
    · rw [if_neg hy]
theorem laws_toAlarm_eq (l : List S88) (s e : Int) (note : ByteArray) (hl : l.length ≤ 1048576) (k : Nat) (hk : 1048577 < k) : laws_toAlarm.f k l s e note = some (labsOf l, s, e, note) := by
  unfold laws_toAlarm.f
  rw [laws_toLabelS_eq l hl k hk]
  rfl
theorem laws_eqAlarm_refl (l : List S90) (s e : Int) (note : ByteArray) (hl : l.length ≤ 140737488351232) (k : Nat) (hk : l.length < k) : laws_eqAlarm.f k l s e note l s e note = some true := by
  unfold laws_eqAlarm.f
  rw [laws_eqLabelS_refl l hl k hk]
  simp

/-! ### Strs -/
def szS (l : List ByteArray) : Nat := l.length + (l.map (fun s => s.size)).sum
theorem laws_szStringS_eq (l : List ByteArray) (hl : l.length ≤ 9223372036854775807) (hs : ∀ s ∈ l, s.size ≤ 9223372036854775807) (left : Int) (h0 : 0 ≤ left) (h1 : left ≤ 1048576) (k : Nat) (hk : 1048577 < k) :
    laws_szStringS.f k l left = some (left' (szS l) left) := by
  unfold laws_szStringS.f szS
  rw [left_of_wrap (n := l.length) hl h0 h1 (fun t => laws_szStringS.l0 k l t 0), ← left_add _ _ _ h0]
  by_cases hz : left' l.length left < 0
  · rw [if_pos hz, if_pos hz]
  · rw [if_neg hz, if_neg hz]
    have hle := left_ge h0 hz
    rw [budget_loop l (by omega) (fun s => s.size) ByteArray.empty 0 (fun k t i => laws_szStringS.l0 k l t i) ?_ ?_ l.length k 0 _ (by omega) (by omega) (by omega) (left_le h1) (by omega)]
    · simp
    · intro k i left _ hi hi' hl0 hl1
      simp only [laws_szStringS.l0]
      rw [if_pos hi', if_pos hi]
      have hj : i.toNat < l.length := by omega
      have hb : (rdOf ByteArray.empty l i).size ≤ 9223372036854775807 := by
        show (l.getD i.toNat ByteArray.empty).size ≤ _
        rw [List.getD_eq_getElem?_getD, List.getElem?_eq_getElem hj]
        exact hs _ (List.getElem_mem hj)
      exact left_of_wrap hb hl0 hl1 (fun t => laws_szStringS.l0 k l t (wrap64 (i + 1)))
    · intro k left _
      simp only [laws_szStringS.l0]
      rw [if_neg (by omega)]
theorem laws_toStringS_eq (l : List ByteArray) (hl : l.length ≤ 1048576) (k : Nat) (hk : 1048577 < k) : laws_toStringS.f k l = some l := by
  unfold laws_toStringS.f
  rw [if_pos (by omega), if_pos (by omega)]
  have h := fill_loop l (by omega) (fun s => s) ByteArray.empty 0 (fun k out i => laws_toStringS.l0 k l out i) ?_ ?_ k (⟨#[]⟩ : ByteArray) (by omega)
  · simpa using h
  · intro k i out _ hi hi' ho
    simp only [laws_toStringS.l0]
    rw [if_pos hi', if_pos hi, if_pos (by omega)]
    rfl
  · intro k out _
    simp only [laws_toStringS.l0]
    rw [if_neg (by omega)]
theorem laws_eqStringS_refl (l : List ByteArray) (hl : l.length ≤ 1048576) (k : Nat) (hk : 1048577 < k) : laws_eqStringS.f k l l = some true := by
  unfold laws_eqStringS.f
  rw [if_pos rfl]
  rw [all_loop (n := l.length) (by omega) 0 (fun _ => true) (fun k i => laws_eqStringS.l0 k l l i) (some true) ?_ ?_ l.length k 0 (by omega) (by omega) (by omega) (by omega)]
  · rw [allFrom_true (fun _ => rfl)]; rfl
  · intro k i _ h0 h1
    simp only [laws_eqStringS.l0]
    rw [if_pos h1, if_pos h0, if_pos h1]
  · intro k _
    simp only [laws_eqStringS.l0]
    rw [if_neg (by omega)]
theorem len_le_szS (l : List ByteArray) : l.length ≤ szS l := by unfold szS; omega
theorem sized_strs (l : List ByteArray) (h : szS l ≤ 1048576) : ∀ s ∈ l, s.size ≤ 1048576 := by
  intro s hs
  have key : ∀ (l : List ByteArray), s ∈ l → s.size ≤ (l.map (fun s => s.size)).sum := by
    intro l
    induction l with
    | nil => intro h; simp at h
    | cons a l ih =>
      intro h
      rcases List.mem_cons.1 h with rfl | h
      · simp
      · have := ih h
        simp only [List.map_cons, List.sum_cons]
        omega
  have := key l hs
  unfold szS at h
  omega

/-! ### Project -/
def hasHit (s : ByteArray) (x : ByteArray) : Option Bool := if x.toList = s.toList then some true else none
def hasText (l : List ByteArray) (s : ByteArray) : Bool := seek (hasHit s) false l
theorem spec_l5Has_eq (l : List ByteArray) (hl : l.length ≤ 140737488351232) (s : ByteArray) (k : Nat) (hk : l.length < k) : spec_l5Has.f k l s = some (hasText l s) := by
  unfold spec_l5Has.f hasText
  have h := seek_loop l hl ByteArray.empty (hasHit s) false 0 (fun k i => spec_l5Has.l0 k l s i) ?_ ?_ l.length k 0 (by omega) (by omega) (by omega)
  · exact h
  · intro k i _ h0 h1
    simp only [spec_l5Has.l0, hasHit]
    rw [if_pos h1, if_pos h0]
    show (if (l.getD i.toNat ByteArray.empty).toList = s.toList then _ else _) = _
    split <;> rfl
  · intro k _
    simp only [spec_l5Has.l0]
    rw [if_neg (by omega)]
theorem impl_hasText_eq (l : List ByteArray) (hl : l.length ≤ 140737488351232) (s : ByteArray) (k : Nat) (hk : l.length < k) : impl_hasText.f k l s = some (hasText l s) := by
  unfold impl_hasText.f hasText
  have h := seek_loop l hl ByteArray.empty (hasHit s) false 0 (fun k i => impl_hasText.l0 k s l l.length i) ?_ ?_ l.length k 0 (by omega) (by omega) (by omega)
  · exact h
  · intro k i _ h0 h1
    simp only [impl_hasText.l0, hasHit]
    rw [if_pos h1, if_pos h0, if_pos h1]
    show (if (l.getD i.toNat ByteArray.empty).toList = s.toList then _ else _) = _
    split <;> rfl
  · intro k _
    simp only [impl_hasText.l0]
    rw [if_neg (by omega)]
def keepL (bys : List ByteArray) (x : S90) : List S90 := if hasText bys x.f0 = true then [x] else []
def project (l : List S90) (bys : List ByteArray) : List S90 := l.flatMap (keepL bys)
theorem keepL_le (bys : List ByteArray) (x : S90) : (keepL bys x).length ≤ 1 := by unfold keepL; split <;> simp
theorem project_le (l : List S90) (bys : List ByteArray) : (project l bys).length ≤ l.length := by
  unfold project
  induction l with
  | nil => simp
  | cons x l ih =>
    have := keepL_le bys x
    simp only [List.flatMap_cons, List.length_append, List.length_cons]
    omega
theorem project_mem (l : List S90) (bys : List ByteArray) (x : S90) (h : x ∈ project l bys) : x ∈ l := by
  unfold project at h
  obtain ⟨y, hy, hx⟩ := List.mem_flatMap.1 h
  unfold keepL at hx
  split at hx
  · rw [List.mem_singleton.1 hx]; exact hy
  · simp at hx
theorem spec_Project_eq (l : List S90) (bys : List ByteArray) (hl : l.length ≤ 1048576) (hb : bys.length ≤ 1048576) (k : Nat) (hk : 4194304 < k) : spec_Project.f k l bys = some (project l bys) := by
  unfold spec_Project.f project
  have h := keep_loop l (by omega) z90 (keepL bys) (keepL_le bys) 1048577 (fun k out i => spec_Project.l0 k l bys out i) ?_ ?_ l.length k 0 [] (by omega) (by omega) (by simp) (by omega)
  · simpa using h
  · intro k i out hk h0 h1 ho
    simp only [spec_Project.l0]
    rw [if_pos h1, if_pos h0, spec_l5Has_eq bys (by omega) _ k (by omega)]
    simp only [Option.bind_some]
    show (if hasText bys (l.getD i.toNat z90).f0 = true then _ else _) = _
    unfold keepL
    by_cases hh : hasText bys (l.getD i.toNat z90).f0 = true
    · rw [if_pos hh, if_pos hh, if_pos (by omega)]; rfl
    · rw [if_neg hh, if_neg hh, List.append_nil]
  · intro k out _
    simp only [spec_Project.l0]
    rw [if_neg (by omega)]
theorem impl_Project_eq (l : List S90) (bys : List ByteArray) (hl : l.length ≤ 1048576) (hb : bys.length ≤ 1048576) (k : Nat) (hk : 4194304 < k) : impl_Project.f k l bys = some (project l bys) := by
  unfold impl_Project.f project
  have h := keep_loop l (by omega) z90 (keepL bys) (keepL_le bys) 1048577 (fun k out i => impl_Project.l0 k bys out l l.length i) ?_ ?_ l.length k 0 [] (by omega) (by omega) (by simp) (by omega)
  · simpa using h
  · intro k i out hk h0 h1 ho
    simp only [impl_Project.l0]
    rw [if_pos h1, if_pos h0, if_pos h1, impl_hasText_eq bys (by omega) _ k (by omega)]
    simp only [Option.bind_some]
    show (if hasText bys (l.getD i.toNat z90).f0 = true then _ else _) = _
    unfold keepL
    by_cases hh : hasText bys (l.getD i.toNat z90).f0 = true
    · rw [if_pos hh, if_pos hh, if_pos (by omega)]; rfl
    · rw [if_neg hh, if_neg hh, List.append_nil]
  · intro k out _
    simp only [impl_Project.l0]
    rw [if_neg (by omega)]

/-! ### KeyOf -/
theorem spec_KeyOf_eq (l : List S90) (s e : Int) (n : ByteArray) (bys : List ByteArray) (hl : l.length ≤ 1048576) (hb : bys.length ≤ 1048576) (k : Nat) (hk : 4194304 < k) : spec_KeyOf.f k l s e n bys = some (project l bys) := by
  unfold spec_KeyOf.f
  rw [spec_Project_eq l bys hl hb k hk]; rfl
theorem impl_KeyOf_eq (l : List S90) (s e : Int) (n : ByteArray) (bys : List ByteArray) (hl : l.length ≤ 1048576) (hb : bys.length ≤ 1048576) (k : Nat) (hk : 4194304 < k) : impl_KeyOf.f k l s e n bys = some (project l bys) := by
  unfold impl_KeyOf.f
  rw [impl_Project_eq l bys hl hb k hk]; rfl

/-! ### SameSet -/
def labEq (x y : S90) : Bool := (x.f0.toList == y.f0.toList) && (x.f1.toList == y.f1.toList)
def sameB (a b : List S90) (i : Int) : Bool := labEq (rd_T90 a i) (rd_T90 b i)
def sameSet (a b : List S90) : Bool := decide (a.length = b.length) && allFrom (sameB a b) a.length 0
theorem same_round (a b : List S90) (i : Int) (x : Option Bool) :
    (if (!((((rd_T90 a i).f0).toList) == (((rd_T90 b i).f0).toList)) || (!((((rd_T90 a i).f1).toList) == (((rd_T90 b i).f1).toList)))) = true then (some false) else x) = if sameB a b i = true then x else some false := by
  unfold sameB labEq
  cases ((rd_T90 a i).f0.toList == (rd_T90 b i).f0.toList) <;> cases ((rd_T90 a i).f1.toList == (rd_T90 b i).f1.toList) <;> simp
theorem spec_SameSet_eq (a b : List S90) (ha : a.length ≤ 140737488351232) (k : Nat) (hk : a.length < k) : spec_SameSet.f k a b = some (sameSet a b) := by
  unfold spec_SameSet.f sameSet
  by_cases h : a.length = b.length
  · rw [if_pos (by omega), decide_eq_true h, Bool.true_and]
    rw [all_loop (n := a.length) ha 0 (sameB a b) (fun k i => spec_SameSet.l0 k a b i) (some true) ?_ ?_ a.length k 0 (by omega) (by omega) (by omega) (by omega), bool_of_if]
    · intro k i _ h0 h1
      simp only [spec_SameSet.l0]
      rw [if_pos h1, if_pos h0, if_pos (by omega), same_round]
    · intro k _
      simp only [spec_SameSet.l0]
      rw [if_neg (by omega)]
  · rw [if_neg (by omega), decide_eq_false h]; rfl
theorem impl_SameSet_eq (a b : List S90) (ha : a.length ≤ 140737488351232) (k : Nat) (hk : a.length < k) : impl_SameSet.f k a b = some (sameSet a b) := by
  unfold impl_SameSet.f sameSet
  by_cases h : a.length = b.length
  · rw [if_pos (by omega), decide_eq_true h, Bool.true_and]
    rw [all_loop (n := a.length) ha 0 (sameB a b) (fun k i => impl_SameSet.l0 k a b a.length i) (some true) ?_ ?_ a.length k 0 (by omega) (by omega) (by omega) (by omega), bool_of_if]
    · intro k i _ h0 h1
      simp only [impl_SameSet.l0]
      rw [if_pos h1, if_pos h0, if_pos h1, if_pos (by omega), same_round]
    · intro k _
      simp only [impl_SameSet.l0]
      rw [if_neg (by omega)]
  · rw [if_neg (by omega), decide_eq_false h]; rfl

/-! ### Together -/
theorem spec_Together_eq (l : List S90) (s e : Int) (n : ByteArray) (l' : List S90) (s' e' : Int) (n' : ByteArray) (bys : List ByteArray) (hl : l.length ≤ 1048576) (hl' : l'.length ≤ 1048576) (hb : bys.length ≤ 1048576) (k : Nat) (hk : 4194304 < k) : spec_Together.f k l s e n l' s' e' n' bys = some (sameSet (project l bys) (project l' bys)) := by
  have := project_le l bys
  unfold spec_Together.f
  rw [spec_KeyOf_eq l s e n bys hl hb k hk, spec_KeyOf_eq l' s' e' n' bys hl' hb k hk]
  simp only [Option.bind_some]
  rw [spec_SameSet_eq _ _ (by omega) k (by omega)]; rfl
theorem impl_Together_eq (l : List S90) (s e : Int) (n : ByteArray) (l' : List S90) (s' e' : Int) (n' : ByteArray) (bys : List ByteArray) (hl : l.length ≤ 1048576) (hl' : l'.length ≤ 1048576) (hb : bys.length ≤ 1048576) (k : Nat) (hk : 4194304 < k) : impl_Together.f k l s e n l' s' e' n' bys = some (sameSet (project l bys) (project l' bys)) := by
  have := project_le l bys
  unfold impl_Together.f
  rw [impl_KeyOf_eq l s e n bys hl hb k hk, impl_KeyOf_eq l' s' e' n' bys hl' hb k hk]
  simp only [Option.bind_some]
  rw [impl_SameSet_eq _ _ (by omega) k (by omega)]; rfl

theorem FnExactTogether (aL : List S88) (aS aE : Int) (aN : ByteArray) (bL : List S88) (bS bE : Int) (bN : ByteArray) (c : List ByteArray) (ha : (aL.length ≤ 9223372036854775807 ∧ ∀ b ∈ aL, b.f0.size ≤ 9223372036854775807 ∧ b.f1.size ≤ 9223372036854775807) ∧ (Lit.int .i64 aS).wf = true ∧ (Lit.int .i64 aE).wf = true ∧ aN.size ≤ 9223372036854775807) (hb : (bL.length ≤ 9223372036854775807 ∧ ∀ b ∈ bL, b.f0.size ≤ 9223372036854775807 ∧ b.f1.size ≤ 9223372036854775807) ∧ (Lit.int .i64 bS).wf = true ∧ (Lit.int .i64 bE).wf = true ∧ bN.size ≤ 9223372036854775807) (hc : c.length ≤ 9223372036854775807 ∧ ∀ s ∈ c, s.size ≤ 9223372036854775807) : ∃ k, laws_FnExactTogether.f k aL aS aE aN bL bS bE bN c = some true := by
  obtain ⟨m, hm⟩ : ∃ m : Nat, 16777216 < m := ⟨16777217, by omega⟩
  have hm1 : 16777216 < m + 1 := by omega
  have hm2 : 16777216 < m + 2 := by omega
  have hm11 : 16777216 < m + 1 + 1 := by omega
  refine ⟨m + 2, ?_⟩
  unfold laws_FnExactTogether.f
  obtain ⟨left1, hleft1⟩ : ∃ x, x = left' ((szL aL + aN.size)) 1048576 := ⟨_, rfl⟩
  rw [laws_szAlarm_eq aL aS aE aN ha.1 ha.2.2.2 _ (by omega) (by omega) _ (by omega), ← hleft1]
  simp only [Option.bind_some]
  by_cases hz1 : left1 < 0
  · rw [if_pos hz1]
  rw [if_neg hz1]
  have hb1 : (((szL aL + aN.size) : Nat) : Int) ≤ 1048576 := left_ge (by omega) (by rw [← hleft1]; exact hz1)
  have hc1 : left1 ≤ 1048576 := by rw [hleft1]; exact left_le (by omega)
  obtain ⟨left2, hleft2⟩ : ∃ x, x = left' ((szL bL + bN.size)) left1 := ⟨_, rfl⟩
  rw [laws_szAlarm_eq bL bS bE bN hb.1 hb.2.2.2 _ (by omega) (by omega) _ (by omega), ← hleft2]
  simp only [Option.bind_some]
  by_cases hz2 : left2 < 0
  · rw [if_pos hz2]
  rw [if_neg hz2]
  have hb2 : (((szL bL + bN.size) : Nat) : Int) ≤ left1 := left_ge (by omega) (by rw [← hleft2]; exact hz2)
  have hc2 : left2 ≤ 1048576 := by rw [hleft2]; exact left_le (by omega)
  obtain ⟨left3, hleft3⟩ : ∃ x, x = left' (szS c) left2 := ⟨_, rfl⟩
  rw [laws_szStringS_eq c hc.1 hc.2 _ (by omega) (by omega) _ (by omega), ← hleft3]
  simp only [Option.bind_some]
  by_cases hz3 : left3 < 0
  · rw [if_pos hz3]
  rw [if_neg hz3]
  have hb3 : ((szS c : Nat) : Int) ≤ left2 := left_ge (by omega) (by rw [← hleft3]; exact hz3)
  have hc3 : left3 ≤ 1048576 := by rw [hleft3]; exact left_le (by omega)
  clear hleft1
  clear hleft2
  clear hleft3
  have la : aL.length ≤ 1048576 := by have := len_le_szL aL; omega
  have qa : (labsOf aL).length ≤ 1048576 := by rw [labsOf_length]; exact la
  have za := sized_labs aL (by omega)
  have na : aN.size ≤ 1048576 := by omega
  have ta : ∀ k, 16777216 < k → laws_toAlarm.f k aL aS aE aN = some (labsOf aL, aS, aE, aN) := fun k hk => laws_toAlarm_eq aL aS aE aN la k (by omega)
  have ea : ∀ k, 16777216 < k → laws_eqAlarm.f k (labsOf aL) aS aE aN (labsOf aL) aS aE aN = some true := fun k hk => laws_eqAlarm_refl _ _ _ _ (by omega) k (by omega)
  have lb : bL.length ≤ 1048576 := by have := len_le_szL bL; omega
  have qb : (labsOf bL).length ≤ 1048576 := by rw [labsOf_length]; exact lb
  have zb := sized_labs bL (by omega)
  have nb : bN.size ≤ 1048576 := by omega
  have tb : ∀ k, 16777216 < k → laws_toAlarm.f k bL bS bE bN = some (labsOf bL, bS, bE, bN) := fun k hk => laws_toAlarm_eq bL bS bE bN lb k (by omega)
  have eb : ∀ k, 16777216 < k → laws_eqAlarm.f k (labsOf bL) bS bE bN (labsOf bL) bS bE bN = some true := fun k hk => laws_eqAlarm_refl _ _ _ _ (by omega) k (by omega)
  have lc : c.length ≤ 1048576 := by have := len_le_szS c; omega
  have zc := sized_strs c (by omega)
  have tc : ∀ k, 16777216 < k → laws_toStringS.f k c = some c := fun k hk => laws_toStringS_eq c lc k (by omega)
  have ec : ∀ k, 16777216 < k → laws_eqStringS.f k c c = some true := fun k hk => laws_eqStringS_refl _ (by omega) k (by omega)
  have sF : ∀ k, 16777216 < k → spec_Together.f k (labsOf aL) aS aE aN (labsOf bL) bS bE bN c = some (sameSet (project (labsOf aL) c) (project (labsOf bL) c)) := fun k hk => spec_Together_eq _ _ _ _ _ _ _ _ _ (by omega) (by omega) (by omega) k (by omega)
  have iF : ∀ k, 16777216 < k → impl_Together.f k (labsOf aL) aS aE aN (labsOf bL) bS bE bN c = some (sameSet (project (labsOf aL) c) (project (labsOf bL) c)) := fun k hk => impl_Together_eq _ _ _ _ _ _ _ _ _ (by omega) (by omega) (by omega) k (by omega)
  simp only [sF, iF, ta, tb, tc, ea, eb, ec, hm, hm1, hm2, hm11, Option.bind_some, bne_self_eq_false, beq_self_eq_true, if_true, Bool.false_eq_true, if_false, Bool.not_true, Bool.not_false]

end Go.Proofs.Ytglefglknlcojab.Pure
