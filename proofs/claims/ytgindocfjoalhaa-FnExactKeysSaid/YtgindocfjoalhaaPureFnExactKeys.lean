/- The program's Keys returns what the reference's Keys returns, for all arguments, in memory of its own; no conditions. -/
import Derived.Test.YtgindocfjoalhaaPFnExactKeysx9
import Derived.Test.YtgindocfjoalhaaM0
import Derived.Test.YtgindocfjoalhaaM1
import Derived.Test.YtgindocfjoalhaaM2
import Derived.Test.YtgindocfjoalhaaM3
import Derived.Test.YtgindocfjoalhaaM4
import Derived.Test.YtgindocfjoalhaaM5
set_option linter.unusedVariables false
set_option linter.unusedSimpArgs false
namespace Go.Proofs.Ytgindocfjoalhaa.Pure
open Go.RowKit Go.Proofs.Ytgindocfjoalhaa.PFnExactKeys Go.Proofs.YtgindocfjoalhaaW.PrintWords Go.Proofs.YtgindocfjoalhaaW.PrintLast Go.Proofs.Ytgindocfjoalhaa.M0 Go.Proofs.Ytgindocfjoalhaa.M1 Go.Proofs.Ytgindocfjoalhaa.M2 Go.Proofs.Ytgindocfjoalhaa.M3 Go.Proofs.Ytgindocfjoalhaa.M4 Go.Proofs.Ytgindocfjoalhaa.M5

/-! ### Project -/
def hasHit (s : ByteArray) (x : ByteArray) : Option Bool := if x.toList = s.toList then some true else none
def hasText (l : List ByteArray) (s : ByteArray) : Bool := seek (hasHit s) false l
theorem spec_l5Has_eq (l : List ByteArray) (hl : l.length ≤ 140737488351232) (s : ByteArray) (k : Nat) (hk : l.length < k) : spec_l5Has.f k l s = some (hasText l s) := by
  unfold spec_l5Has.f hasText
  have h := seek_loop l hl ByteArray.empty (hasHit s) false 0 (fun k i => spec_l5Has.l0 k l s i) ?_ ?_ l.length k 0 (by omega) (by omega) (by omega)
  · exact h
  · intro k i _ h0 h1
    simp only [spec_l5Has.l0, hasHit]
    rw [if_pos h1, if_pos h0]
    show (if (l.getD i.toNat ByteArray.empty).toList = s.toList then _ else _) = _
    split <;> rfl
  · intro k _
    simp only [spec_l5Has.l0]
    rw [if_neg (by omega)]
theorem impl_hasText_eq (l : List ByteArray) (hl : l.length ≤ 140737488351232) (s : ByteArray) (k : Nat) (hk : l.length < k) : impl_hasText.f k l s = some (hasText l s) := by
  unfold impl_hasText.f hasText
  have h := seek_loop l hl ByteArray.empty (hasHit s) false 0 (fun k i => impl_hasText.l0 k s l l.length i) ?_ ?_ l.length k 0 (by omega) (by omega) (by omega)
  · exact h
  · intro k i _ h0 h1
    simp only [impl_hasText.l0, hasHit]
    rw [if_pos h1, if_pos h0, if_pos h1]
    show (if (l.getD i.toNat ByteArray.empty).toList = s.toList then _ else _) = _
    split <;> rfl
  · intro k _
    simp only [impl_hasText.l0]
    rw [if_neg (by omega)]
def keepL (bys : List ByteArray) (x : S89) : List S89 := if hasText bys x.f0 = true then [x] else []
def project (l : List S89) (bys : List ByteArray) : List S89 := l.flatMap (keepL bys)
theorem keepL_le (bys : List ByteArray) (x : S89) : (keepL bys x).length ≤ 1 := by unfold keepL; split <;> simp
theorem project_le (l : List S89) (bys : List ByteArray) : (project l bys).length ≤ l.length := by
  unfold project
  induction l with
  | nil => simp
  | cons x l ih =>
    have := keepL_le bys x
    simp only [List.flatMap_cons, List.length_append, List.length_cons]
    omega
theorem project_mem (l : List S89) (bys : List ByteArray) (x : S89) (h : x ∈ project l bys) : x ∈ l := by
  unfold project at h
  obtain ⟨y, hy, hx⟩ := List.mem_flatMap.1 h
  unfold keepL at hx
  split at hx
  · rw [List.mem_singleton.1 hx]; exact hy
  · simp at hx
theorem spec_Project_eq (l : List S89) (bys : List ByteArray) (hl : l.length ≤ 1048576) (hb : bys.length ≤ 1048576) (k : Nat) (hk : 4194304 < k) : spec_Project.f k l bys = some (project l bys) := by
  unfold spec_Project.f project
  have h := keep_loop l (by omega) z89 (keepL bys) (keepL_le bys) 1048577 (fun k out i => spec_Project.l0 k l bys out i) ?_ ?_ l.length k 0 [] (by omega) (by omega) (by simp) (by omega)
  · simpa using h
  · intro k i out hk h0 h1 ho
    simp only [spec_Project.l0]
    rw [if_pos h1, if_pos h0, spec_l5Has_eq bys (by omega) _ k (by omega)]
    simp only [Option.bind_some]
    show (if hasText bys (l.getD i.toNat z89).f0 = true then _ else _) = _
    unfold keepL
    by_cases hh : hasText bys (l.getD i.toNat z89).f0 = true
    · rw [if_pos hh, if_pos hh, if_pos (by omega)]; rfl
    · rw [if_neg hh, if_neg hh, List.append_nil]
  · intro k out _
    simp only [spec_Project.l0]
    rw [if_neg (by omega)]
theorem impl_Project_eq (l : List S89) (bys : List ByteArray) (hl : l.length ≤ 1048576) (hb : bys.length ≤ 1048576) (k : Nat) (hk : 4194304 < k) : impl_Project.f k l bys = some (project l bys) := by
  unfold impl_Project.f project
  have h := keep_loop l (by omega) z89 (keepL bys) (keepL_le bys) 1048577 (fun k out i => impl_Project.l0 k bys out l l.length i) ?_ ?_ l.length k 0 [] (by omega) (by omega) (by simp) (by omega)
  · simpa using h
  · intro k i out hk h0 h1 ho
    simp only [impl_Project.l0]
    rw [if_pos h1, if_pos h0, if_pos h1, impl_hasText_eq bys (by omega) _ k (by omega)]
    simp only [Option.bind_some]
    show (if hasText bys (l.getD i.toNat z89).f0 = true then _ else _) = _
    unfold keepL
    by_cases hh : hasText bys (l.getD i.toNat z89).f0 = true
    · rw [if_pos hh, if_pos hh, if_pos (by omega)]; rfl
    · rw [if_neg hh, if_neg hh, List.append_nil]
  · intro k out _
    simp only [impl_Project.l0]
    rw [if_neg (by omega)]

/-! ### KeyOf -/
theorem spec_KeyOf_eq (l : List S89) (s e : Int) (n : ByteArray) (bys : List ByteArray) (hl : l.length ≤ 1048576) (hb : bys.length ≤ 1048576) (k : Nat) (hk : 4194304 < k) : spec_KeyOf.f k l s e n bys = some (project l bys) := by
  unfold spec_KeyOf.f
  rw [spec_Project_eq l bys hl hb k hk]; rfl
theorem impl_KeyOf_eq (l : List S89) (s e : Int) (n : ByteArray) (bys : List ByteArray) (hl : l.length ≤ 1048576) (hb : bys.length ≤ 1048576) (k : Nat) (hk : 4194304 < k) : impl_KeyOf.f k l s e n bys = some (project l bys) := by
  unfold impl_KeyOf.f
  rw [impl_Project_eq l bys hl hb k hk]; rfl

/-! ### SameSet -/
def labEq (x y : S89) : Bool := (x.f0.toList == y.f0.toList) && (x.f1.toList == y.f1.toList)
def sameB (a b : List S89) (i : Int) : Bool := labEq (rd_T89 a i) (rd_T89 b i)
def sameSet (a b : List S89) : Bool := decide (a.length = b.length) && allFrom (sameB a b) a.length 0
theorem same_round (a b : List S89) (i : Int) (x : Option Bool) :
    (if (!((((rd_T89 a i).f0).toList) == (((rd_T89 b i).f0).toList)) || (!((((rd_T89 a i).f1).toList) == (((rd_T89 b i).f1).toList)))) = true then (some false) else x) = if sameB a b i = true then x else some false := by
  unfold sameB labEq
  cases ((rd_T89 a i).f0.toList == (rd_T89 b i).f0.toList) <;> cases ((rd_T89 a i).f1.toList == (rd_T89 b i).f1.toList) <;> simp
theorem spec_SameSet_eq (a b : List S89) (ha : a.length ≤ 140737488351232) (k : Nat) (hk : a.length < k) : spec_SameSet.f k a b = some (sameSet a b) := by
  unfold spec_SameSet.f sameSet
  by_cases h : a.length = b.length
  · rw [if_pos (by omega), decide_eq_true h, Bool.true_and]
    rw [all_loop (n := a.length) ha 0 (sameB a b) (fun k i => spec_SameSet.l0 k a b i) (some true) ?_ ?_ a.length k 0 (by omega) (by omega) (by omega) (by omega), bool_of_if]
    · intro k i _ h0 h1
      simp only [spec_SameSet.l0]
      rw [if_pos h1, if_pos h0, if_pos (by omega), same_round]
    · intro k _
      simp only [spec_SameSet.l0]
      rw [if_neg (by omega)]
  · rw [if_neg (by omega), decide_eq_false h]; rfl
theorem impl_SameSet_eq (a b : List S89) (ha : a.length ≤ 140737488351232) (k : Nat) (hk : a.length < k) : impl_SameSet.f k a b = some (sameSet a b) := by
  unfold impl_SameSet.f sameSet
  by_cases h : a.length = b.length
  · rw [if_pos (by omega), decide_eq_true h, Bool.true_and]
    rw [all_loop (n := a.length) ha 0 (sameB a b) (fun k i => impl_SameSet.l0 k a b a.length i) (some true) ?_ ?_ a.length k 0 (by omega) (by omega) (by omega) (by omega), bool_of_if]
    · intro k i _ h0 h1
      simp only [impl_SameSet.l0]
      rw [if_pos h1, if_pos h0, if_pos h1, if_pos (by omega), same_round]
    · intro k _
      simp only [impl_SameSet.l0]
      rw [if_neg (by omega)]
  · rw [if_neg (by omega), decide_eq_false h]; rfl

/-! ### LabS -/
def labOf (x : S113) : S89 := ⟨x.f0, x.f1⟩
def labsOf (l : List S113) : List S89 := l.map labOf
def szLab (x : S113) : Nat := x.f0.size + x.f1.size
def szL (l : List S113) : Nat := l.length + (l.map szLab).sum
/-- Sizes that Go knows. -/
def WfL (l : List S113) : Prop := l.length ≤ 9223372036854775807 ∧ ∀ x ∈ l, x.f0.size ≤ 9223372036854775807 ∧ x.f1.size ≤ 9223372036854775807
theorem labsOf_length (l : List S113) : (labsOf l).length = l.length := by simp [labsOf]
theorem len_le_szL (l : List S113) : l.length ≤ szL l := by unfold szL; omega
theorem sum_mem {α : Type} (f : α → Nat) : ∀ (l : List α) (x : α), x ∈ l → f x ≤ (l.map f).sum
  | [], x, h => by simp at h
  | a :: l, x, h => by
    rcases List.mem_cons.1 h with rfl | h
    · simp
    · have := sum_mem f l x h
      simp only [List.map_cons, List.sum_cons]
      omega
theorem laws_szLabel_eq (a b : ByteArray) (ha : a.size ≤ 9223372036854775807) (hb : b.size ≤ 9223372036854775807) (left : Int) (h0 : 0 ≤ left) (h1 : left ≤ 1048576) : laws_szLabel.f a b left = some (left' (a.size + b.size) left) := by
  unfold laws_szLabel.f
  rw [← left_add _ _ _ h0, left_of_wrap ha h0 h1 (fun t => if (wrap64 (t - (b.size : Int))) < 0 then (some (-1)) else (some (wrap64 (t - (b.size : Int)))))]
  by_cases hz : left' a.size left < 0
  · rw [if_pos hz, if_pos hz]
  · rw [if_neg hz, if_neg hz]
    have hle := left_ge h0 hz
    have e : left' a.size left = left - a.size := by unfold left'; rw [if_pos hle]
    rw [left_of_wrap hb (by omega) (by omega) (fun t => some t)]
    by_cases hy : left' b.size (left' a.size left) < 0
    · rw [if_pos hy]
      rw [left_neg_one (by omega) hy]
    · rw [if_neg hy]
theorem rdML_mem (l : List S113) (i : Int) (h0 : 0 ≤ i) (h1 : i < (l.length : Int)) : rd_T113 l i ∈ l := by
  unfold rd_T113
  rw [List.getD_eq_getElem?_getD, List.getElem?_eq_getElem (by omega)]
  exact List.getElem_mem (by omega)
theorem laws_szLabelS_eq (l : List S113) (hl : WfL l) (left : Int) (h0 : 0 ≤ left) (h1 : left ≤ 1048576) (k : Nat) (hk : 1048577 < k) :
    laws_szLabelS.f k l left = some (left' (szL l) left) := by
  unfold laws_szLabelS.f szL
  rw [left_of_wrap (n := l.length) hl.1 h0 h1 (fun t => laws_szLabelS.l0 k l t 0), ← left_add _ _ _ h0]
  by_cases hz : left' l.length left < 0
  · rw [if_pos hz, if_pos hz]
  · rw [if_neg hz, if_neg hz]
    have hle := left_ge h0 hz
    rw [budget_loop l (by omega) szLab z113 0 (fun k t i => laws_szLabelS.l0 k l t i) ?_ ?_ l.length k 0 _ (by omega) (by omega) (by omega) (left_le h1) (by omega)]
    · simp
    · intro k i left _ hi hi' hl0 hl1
      have hm := hl.2 _ (rdML_mem l i hi hi')
      simp only [laws_szLabelS.l0]
      rw [if_pos hi', if_pos hi, laws_szLabel_eq _ _ hm.1 hm.2 _ hl0 hl1]
      rfl
    · intro k left _
      simp only [laws_szLabelS.l0]
      rw [if_neg (by omega)]
theorem laws_toLabelS_eq (l : List S113) (hl : l.length ≤ 1048576) (k : Nat) (hk : 1048577 < k) : laws_toLabelS.f k l = some (labsOf l) := by
  unfold laws_toLabelS.f
  rw [if_pos (by omega), if_pos (by omega)]
  have h := fill_loop l (by omega) labOf z113 0 (fun k out i => laws_toLabelS.l0 k l out i) ?_ ?_ k z89 (by omega)
  · exact h
  · intro k i out _ hi hi' ho
    simp only [laws_toLabelS.l0]
    rw [if_pos hi', if_pos hi]
    simp only [laws_toLabel.f, Option.bind_some]
    rw [if_pos (by omega)]
    rfl
  · intro k out _
    simp only [laws_toLabelS.l0]
    rw [if_neg (by omega)]
theorem sized_labs (l : List S113) (h : szL l ≤ 1048576) : ∀ x ∈ labsOf l, x.f0.size ≤ 1048576 ∧ x.f1.size ≤ 1048576 := by
  intro x hx
  obtain ⟨y, hy, rfl⟩ := List.mem_map.1 hx
  have := sum_mem szLab l y hy
  have h1 : y.f0.size + y.f1.size ≤ (l.map szLab).sum := this
  unfold szL at h
  show y.f0.size ≤ _ ∧ y.f1.size ≤ _
  omega

/-! ### EqL -/
theorem laws_eqLabelS_refl (l : List S89) (hl : l.length ≤ 140737488351232) (k : Nat) (hk : l.length < k) : laws_eqLabelS.f k l l = some true := by
  unfold laws_eqLabelS.f
  rw [if_pos rfl]
  rw [all_loop (n := l.length) (by omega) 0 (fun _ => true) (fun k i => laws_eqLabelS.l0 k l l i) (some true) ?_ ?_ l.length k 0 (by omega) (by omega) (by omega) (by omega)]
  · rw [allFrom_true (fun _ => rfl)]; rfl
  · intro k i _ h0 h1
    simp only [laws_eqLabelS.l0]
    rw [if_pos h1, if_pos h0, if_pos h1]
    simp only [laws_eqLabel.f, Option.bind_some, if_true]
  · intro k _
    simp only [laws_eqLabelS.l0]
    rw [if_neg (by omega)]

/-! ### AlarmS -/
def WfA (l : List S113) (note : ByteArray) : Prop := WfL l ∧ note.size ≤ 9223372036854775807
theorem laws_szAlarm_eq (l : List S113) (s e : Int) (note : ByteArray) (h : WfL l) (hn : note.size ≤ 9223372036854775807) (left : Int) (h0 : 0 ≤ left) (h1 : left ≤ 1048576) (k : Nat) (hk : 1048577 < k) :
    laws_szAlarm.f k l s e note left = some (left' (szL l + note.size) left) := by
  unfold laws_szAlarm.f
  rw [laws_szLabelS_eq l h left h0 h1 k hk, ← left_add _ _ _ h0]
  simp only [Option.bind_some]
  by_cases hz : left' (szL l) left < 0
  · rw [if_pos hz, if_pos hz]
  · rw [if_neg hz, if_neg hz]
    have hle := left_le (t := szL l) h1
    rw [left_of_wrap hn (by omega) hle (fun t => some t)]
    by_cases hy : left' note.size (left' (szL l) left) < 0
    · rw [if_pos hy, left_neg_one (by omega) hy]
    · rw [if_neg hy]
theorem laws_toAlarm_eq (l : List S113) (s e : Int) (note : ByteArray) (hl : l.length ≤ 1048576) (k : Nat) (hk : 1048577 < k) : laws_toAlarm.f k l s e note = some (labsOf l, s, e, note) := by
  unfold laws_toAlarm.f
  rw [laws_toLabelS_eq l hl k hk]
  rfl
theorem laws_eqAlarm_refl (l : List S89) (s e : Int) (note : ByteArray) (hl : l.length ≤ 140737488351232) (k : Nat) (hk : l.length < k) : laws_eqAlarm.f k l s e note l s e note = some true := by
  unfold laws_eqAlarm.f
  rw [laws_eqLabelS_refl l hl k hk]
  simp

/-! ### AlarmsS -/
def WfA1 (x : S62) : Prop := WfL x.f0 ∧ (Lit.int .i64 x.f1).wf = true ∧ (Lit.int .i64 x.f2).wf = true ∧ x.f3.size ≤ 9223372036854775807
def WfAs (l : List S62) : Prop := l.length ≤ 9223372036854775807 ∧ ∀ x ∈ l, WfA1 x
def szA (x : S62) : Nat := szL x.f0 + x.f3.size
def szAs (l : List S62) : Nat := l.length + (l.map szA).sum
def alarmOf (x : S62) : S26 := ⟨labsOf x.f0, x.f1, x.f2, x.f3⟩
def alarmsOf (l : List S62) : List S26 := l.map alarmOf
def OkA (a : S26) : Prop := a.f0.length ≤ 1048576 ∧ (∀ x ∈ a.f0, x.f0.size ≤ 1048576 ∧ x.f1.size ≤ 1048576) ∧ a.f3.size ≤ 1048576
def OkAs (l : List S26) : Prop := l.length ≤ 1048576 ∧ ∀ a ∈ l, OkA a
theorem len_le_szAs (l : List S62) : l.length ≤ szAs l := by unfold szAs; omega
theorem mem_szAs (l : List S62) (x : S62) (hx : x ∈ l) : szA x ≤ szAs l := by
  have := sum_mem szA l x hx
  unfold szAs
  omega
theorem okA_of (x : S62) (h : szA x ≤ 1048576) : OkA (alarmOf x) := by
  unfold szA at h
  have := len_le_szL x.f0
  refine ⟨?_, ?_, ?_⟩
  · show (labsOf x.f0).length ≤ _
    rw [labsOf_length]; omega
  · exact sized_labs x.f0 (by omega)
  · show x.f3.size ≤ _
    omega
theorem okAs_of (l : List S62) (h : szAs l ≤ 1048576) : OkAs (alarmsOf l) := by
  refine ⟨?_, fun a ha => ?_⟩
  · have := len_le_szAs l
    simp [alarmsOf]; omega
  · obtain ⟨x, hx, rfl⟩ := List.mem_map.1 ha
    have := mem_szAs l x hx
    exact okA_of x (by omega)
theorem rdMA_mem (l : List S62) (i : Int) (h0 : 0 ≤ i) (h1 : i < (l.length : Int)) : rd_T62 l i ∈ l := by
  unfold rd_T62
  rw [List.getD_eq_getElem?_getD, List.getElem?_eq_getElem (by omega)]
  exact List.getElem_mem (by omega)
theorem rdA_mem (l : List S26) (i : Int) (h0 : 0 ≤ i) (h1 : i < (l.length : Int)) : rd_T26 l i ∈ l := by
  unfold rd_T26
  rw [List.getD_eq_getElem?_getD, List.getElem?_eq_getElem (by omega)]
  exact List.getElem_mem (by omega)
theorem laws_szAlarmS_eq (l : List S62) (hl : WfAs l) (left : Int) (h0 : 0 ≤ left) (h1 : left ≤ 1048576) (k : Nat) (hk : 2200000 < k) :
    laws_szAlarmS.f k l left = some (left' (szAs l) left) := by
  unfold laws_szAlarmS.f szAs
  rw [left_of_wrap (n := l.length) hl.1 h0 h1 (fun t => laws_szAlarmS.l0 k l t 0), ← left_add _ _ _ h0]
  by_cases hz : left' l.length left < 0
  · rw [if_pos hz, if_pos hz]
  · rw [if_neg hz, if_neg hz]
    have hle := left_ge h0 hz
    rw [budget_loop l (by omega) szA z62 1048578 (fun k t i => laws_szAlarmS.l0 k l t i) ?_ ?_ l.length k 0 _ (by omega) (by omega) (by omega) (left_le h1) (by omega)]
    · simp
    · intro k i left hk hi hi' hl0 hl1
      have hm := hl.2 _ (rdMA_mem l i hi hi')
      simp only [laws_szAlarmS.l0]
      rw [if_pos hi', if_pos hi, laws_szAlarm_eq _ _ _ _ hm.1 hm.2.2.2 _ hl0 hl1 _ (by omega)]
      rfl
    · intro k left _
      simp only [laws_szAlarmS.l0]
      rw [if_neg (by omega)]
theorem laws_toAlarmS_eq (l : List S62) (hs : szAs l ≤ 1048576) (k : Nat) (hk : 2200000 < k) : laws_toAlarmS.f k l = some (alarmsOf l) := by
  have hl := len_le_szAs l
  unfold laws_toAlarmS.f
  rw [if_pos (by omega), if_pos (by omega)]
  have h := fill_loop l (by omega) alarmOf z62 1048578 (fun k out i => laws_toAlarmS.l0 k l out i) ?_ ?_ k z26 (by omega)
  · exact h
  · intro k i out hk hi hi' ho
    have hm := mem_szAs l _ (rdMA_mem l i hi hi')
    have hm2 := len_le_szL (rd_T62 l i).f0
    unfold szA at hm
    simp only [laws_toAlarmS.l0]
    rw [if_pos hi', if_pos hi, laws_toAlarm_eq _ _ _ _ (by omega) _ (by omega)]
    simp only [Option.bind_some]
    rw [if_pos (by omega)]
    rfl
  · intro k out _
    simp only [laws_toAlarmS.l0]
    rw [if_neg (by omega)]
theorem laws_eqAlarmS_refl (l : List S26) (hl : OkAs l) (k : Nat) (hk : 2200000 < k) : laws_eqAlarmS.f k l l = some true := by
  have hl1 := hl.1
  unfold laws_eqAlarmS.f
  rw [if_pos rfl]
  rw [all_loop (n := l.length) (by omega) 1048577 (fun _ => true) (fun k i => laws_eqAlarmS.l0 k l l i) (some true) ?_ ?_ l.length k 0 (by omega) (by omega) (by omega) (by omega)]
  · rw [allFrom_true (fun _ => rfl)]; rfl
  · intro k i hk h0 h1
    have hm := (hl.2 _ (rdA_mem l i h0 h1)).1
    simp only [laws_eqAlarmS.l0]
    rw [if_pos h1, if_pos h0, if_pos h1, laws_eqAlarm_refl _ _ _ _ (by omega) _ (by omega)]
    rfl
  · intro k _
    simp only [laws_eqAlarmS.l0]
    rw [if_neg (by omega)]

/-! ### Keys -/
/-- Is a key among these, or was it already? -/
def knownB (key : List S89) : List (List S89) → Bool → Bool
  | [], b => b
  | x :: r, b => if b = true then knownB key r true else knownB key r (sameSet x key)
/-- The keys of the alarms, each once, in the order they come. -/
def keysFrom (bys : List ByteArray) : List S26 → List (List S89) → List (List S89)
  | [], out => out
  | a :: r, out => if knownB (project a.f0 bys) out false = true then keysFrom bys r out else keysFrom bys r (out ++ [project a.f0 bys])
theorem keysFrom_length (bys : List ByteArray) : ∀ (l : List S26) (out : List (List S89)), (keysFrom bys l out).length ≤ out.length + l.length
  | [], out => by simp [keysFrom]
  | a :: r, out => by
    unfold keysFrom
    have h1 := keysFrom_length bys r out
    have h2 := keysFrom_length bys r (out ++ [project a.f0 bys])
    simp only [List.length_append, List.length_cons, List.length_nil] at h2 ⊢
    split <;> omega
theorem keysFrom_small (bys : List ByteArray) : ∀ (l : List S26) (out : List (List S89)), (∀ a ∈ l, a.f0.length ≤ 1048576) → (∀ x ∈ out, x.length ≤ 1048576) → ∀ x ∈ keysFrom bys l out, x.length ≤ 1048576
  | [], out, _, ho => ho
  | a :: r, out, hl, ho => by
    unfold keysFrom
    have h1 := keysFrom_small bys r out (fun b hb => hl b (List.mem_cons_of_mem _ hb)) ho
    have h2 := keysFrom_small bys r (out ++ [project a.f0 bys]) (fun b hb => hl b (List.mem_cons_of_mem _ hb)) (by
      intro x hx
      rcases List.mem_append.1 hx with hx | hx
      · exact ho x hx
      · rw [List.mem_singleton.1 hx]
        exact Nat.le_trans (project_le _ _) (hl a List.mem_cons_self))
    split
    · exact h1
    · exact h2
theorem impl_known_eq (k : Nat) (hk : 4194304 < k) (key : List S89) : ∀ (l : List (List S89)) (b : Bool), (∀ x ∈ l, x.length ≤ 1048576) → impl_Keys.known k key l b = some (knownB key l b)
  | [], b, _ => rfl
  | x :: r, b, hl => by
    have hr : ∀ y ∈ r, y.length ≤ 1048576 := fun y hy => hl y (List.mem_cons_of_mem _ hy)
    have hx := hl x List.mem_cons_self
    unfold impl_Keys.known knownB
    by_cases hb : b = true
    · rw [if_pos hb, if_pos hb]; exact impl_known_eq k hk key r true hr
    · rw [if_neg hb, if_neg hb, impl_SameSet_eq x key (by omega) k (by omega)]
      exact impl_known_eq k hk key r _ hr
theorem impl_Keys_go_eq (k : Nat) (hk : 4194304 < k) (bys : List ByteArray) (hb : bys.length ≤ 1048576) : ∀ (l : List S26) (out : List (List S89)), out.length + l.length ≤ 1048576 → (∀ a ∈ l, a.f0.length ≤ 1048576) → (∀ x ∈ out, x.length ≤ 1048576) → impl_Keys.go k bys l out = some (keysFrom bys l out)
  | [], out, _, _, _ => rfl
  | a :: r, out, hn, hl, ho => by
    have hr : ∀ y ∈ r, y.f0.length ≤ 1048576 := fun y hy => hl y (List.mem_cons_of_mem _ hy)
    have ha := hl a List.mem_cons_self
    simp only [List.length_cons] at hn
    unfold impl_Keys.go keysFrom
    rw [impl_KeyOf_eq _ _ _ _ bys ha hb k hk]
    simp only [Option.bind_some]
    rw [impl_known_eq k hk _ out false ho]
    simp only [Option.bind_some]
    split
    · exact impl_Keys_go_eq k hk bys hb r out (by omega) hr ho
    · rw [if_pos (by omega)]
      refine impl_Keys_go_eq k hk bys hb r _ (by simp only [List.length_append, List.length_cons, List.length_nil]; omega) hr ?_
      intro x hx
      rcases List.mem_append.1 hx with hx | hx
      · exact ho x hx
      · rw [List.mem_singleton.1 hx]
        exact Nat.le_trans (project_le _ _) ha
theorem impl_Keys_eq (l : List S26) (bys : List ByteArray) (hn : l.length ≤ 1048576) (hl : ∀ a ∈ l, a.f0.length ≤ 1048576) (hb : bys.length ≤ 1048576) (k : Nat) (hk : 4194304 < k) : impl_Keys.f k l bys = some (keysFrom bys l []) :=
  impl_Keys_go_eq k hk bys hb l [] (by simpa using hn) hl (by simp)
theorem spec_Keys_inner (l : List S26) (bys : List ByteArray) (i : Int) (key : List S89) (out : List (List S89)) (hn : out.length ≤ 1048576) (ho : ∀ x ∈ out, x.length ≤ 1048576) (d : Nat) : ∀ (k : Nat) (b : Bool) (j : Int), 0 ≤ j → j + d = (out.length : Int) → 4194304 ≤ k →
    spec_Keys.l1 (k + d + 1) l bys out i key b j = if knownB key (out.drop j.toNat) b = true then spec_Keys.l0 k l bys out (wrap64 (i + 1)) else spec_Keys.l0 k l bys (out ++ [key]) (wrap64 (i + 1)) := by
  induction d with
  | zero =>
    intro k b j h0 hd hk
    obtain rfl : j = (out.length : Int) := by omega
    rw [Nat.add_zero, spec_Keys.l1, if_neg (by omega), List.drop_eq_nil_of_le (by simp)]
    unfold knownB
    cases b
    · rw [if_neg (by simp), if_pos (by omega), if_neg (by simp)]
    · rw [if_pos rfl, if_pos rfl]
  | succ d ih =>
    intro k b j h0 hd hk
    have hdr := drop_cons ([] : List S89) out j h0 (by omega)
    have hkn : knownB key (out.drop j.toNat) b = if b = true then knownB key (out.drop (j + 1).toNat) true else knownB key (out.drop (j + 1).toNat) (sameSet (rd_L2 out j) key) := by rw [hdr]; rfl
    rw [show k + (d + 1) + 1 = (k + d + 1) + 1 by omega, spec_Keys.l1, if_pos (by omega)]
    simp only [hkn]
    clear hkn hdr
    by_cases hb : b = true
    · rw [if_pos hb, if_pos hb, w64 (x := j + 1) (by omega) (by omega)]
      exact ih k true (j + 1) (by omega) (by omega) hk
    · rw [if_neg hb, if_neg hb, if_pos h0]
      have hm : (rd_L2 out j).length ≤ 1048576 := by
        refine ho _ ?_
        unfold rd_L2
        rw [List.getD_eq_getElem?_getD, List.getElem?_eq_getElem (by omega)]
        exact List.getElem_mem (by omega)
      rw [spec_SameSet_eq _ _ (by omega) _ (by omega), w64 (x := j + 1) (by omega) (by omega)]
      simp only [Option.bind_some]
      exact ih k _ (j + 1) (by omega) (by omega) hk
theorem spec_Keys_outer (l : List S26) (bys : List ByteArray) (hn : l.length ≤ 1048576) (hl : ∀ a ∈ l, a.f0.length ≤ 1048576) (hb : bys.length ≤ 1048576) (C : Nat) (hC : C = 1048580) (d : Nat) : ∀ (k : Nat) (out : List (List S89)) (i : Int), 0 ≤ i → i + d = (l.length : Int) → out.length + d ≤ 1048576 → (∀ x ∈ out, x.length ≤ 1048576) → 4194304 + d * C < k →
    spec_Keys.l0 k l bys out i = some (keysFrom bys (l.drop i.toNat) out) := by
  induction d with
  | zero =>
    intro k out i h0 hd hm ho hk
    obtain ⟨k, rfl⟩ : ∃ m, k = m + 1 := ⟨k - 1, by omega⟩
    obtain rfl : i = (l.length : Int) := by omega
    simp only [spec_Keys.l0]
    rw [if_neg (by omega), List.drop_eq_nil_of_le (by omega)]
    rfl
  | succ d ih =>
    intro k out i h0 hd hm ho hk
    rw [Nat.succ_mul] at hk
    obtain ⟨q, rfl⟩ : ∃ q, k = q + out.length + 1 + 1 := ⟨k - out.length - 2, by omega⟩
    have ha := hl _ (rdA_mem l i h0 (by omega))
    rw [drop_cons z26 l i h0 (by omega)]
    rw [spec_Keys.l0]
    unfold keysFrom
    rw [if_pos (by omega), if_pos h0, spec_KeyOf_eq _ _ _ _ bys ha hb (q + out.length + 1) (by omega)]
    simp only [Option.bind_some]
    rw [spec_Keys_inner l bys i _ out (by omega) ho out.length q false 0 (by omega) (by omega) (by omega), w64 (x := i + 1) (by omega) (by omega)]
    simp only [Int.toNat_zero, List.drop_zero]
    show (if knownB (project (rd_T26 l i).f0 bys) out false = true then _ else _) = some (if knownB (project (rd_T26 l i).f0 bys) out false = true then _ else _)
    split
    · exact ih q out (i + 1) (by omega) (by omega) (by omega) ho (by omega)
    · refine ih q _ (i + 1) (by omega) (by omega) (by simp only [List.length_append, List.length_cons, List.length_nil]; omega) ?_ (by omega)
      intro x hx
      rcases List.mem_append.1 hx with hx | hx
      · exact ho x hx
      · rw [List.mem_singleton.1 hx]
        exact Nat.le_trans (project_le _ _) ha
theorem spec_Keys_eq (l : List S26) (bys : List ByteArray) (hn : l.length ≤ 1048576) (hl : ∀ a ∈ l, a.f0.length ≤ 1048576) (hb : bys.length ≤ 1048576) (k : Nat) (hk : 1099530000000 < k) : spec_Keys.f k l bys = some (keysFrom bys l []) := by
  unfold spec_Keys.f
  rw [spec_Keys_outer l bys hn hl hb 1048580 rfl l.length k [] 0 (by omega) (by omega) (by simpa using hn) (by simp) (by omega)]
  rfl

/-! ### MarkText -/
def markLoop : Nat → Int → ByteArray → ByteArray
  | 0, _, s => (⟨#[109]⟩ : ByteArray) ++ s
  | d + 1, x, s => if x > 0 then markLoop d (Int.tdiv x 10) ((strOfNums [(wrap64 (48 + (Int.tmod x 10))) % 256]) ++ s) else (⟨#[109]⟩ : ByteArray) ++ s
def markOf (n : Int) : ByteArray := if n ≤ 0 then (⟨#[109, 48]⟩ : ByteArray) else markLoop 20 n (⟨#[]⟩ : ByteArray)
theorem strOf1 (c : Int) : (strOfNums [c]).size = 1 := by simp [strOfNums, ByteArray.size]
theorem markLoop_eq (d : Nat) : ∀ (k : Nat) (x : Int) (s : ByteArray), 0 ≤ x → x < 10 ^ d → x < 9223372036854775807 → s.size + d ≤ 1000 → d < k → laws_markText.l0 k x s = some (markLoop d x s) := by
  induction d with
  | zero =>
    intro k x s h0 h1 _ hs hk
    obtain ⟨k, rfl⟩ : ∃ m, k = m + 1 := ⟨k - 1, by omega⟩
    simp only [laws_markText.l0, markLoop]
    rw [if_neg (by omega), if_pos (by omega)]
  | succ d ih =>
    intro k x s h0 h1 h2 hs hk
    obtain ⟨k, rfl⟩ : ∃ m, k = m + 1 := ⟨k - 1, by omega⟩
    simp only [laws_markText.l0, markLoop]
    by_cases hx : x > 0
    · rw [if_pos hx, if_pos hx]
      simp only [Option.bind_some]
      have e : Int.tdiv x 10 = x / 10 := Int.tdiv_eq_ediv_of_nonneg h0
      have h10 : (10 : Int) ^ (d + 1) = 10 ^ d * 10 := Int.pow_succ 10 d
      rw [if_pos (by rw [strOf1]; omega), w64 (x := Int.tdiv x 10) (by omega) (by omega)]
      refine ih k _ _ (by omega) (by rw [e]; omega) (by omega) ?_ (by omega)
      rw [ByteArray.size_append, strOf1]
      omega
    · rw [if_neg hx, if_neg hx, if_pos (by omega)]
theorem markText_eq (n : Int) (hn : n ≤ 4611686018427387904) (k : Nat) (hk : 21 < k) : laws_markText.f k n = some (markOf n) := by
  unfold laws_markText.f markOf
  by_cases h : n ≤ 0
  · rw [if_pos h, if_pos h]
  · rw [if_neg h, if_neg h]
    exact markLoop_eq 20 k n _ (by omega) (by omega) (by omega) (by decide) (by omega)

/-! ### MarkL -/
def mkLab (b : S89) (x : Int) : S89 := ⟨markOf x, markOf (x + 1)⟩
theorem laws_markLabelS_eq (l : List S89) (hl : l.length ≤ 140737488351232) (x : Int) (h0 : 0 ≤ x) (hx : x + 2 * l.length ≤ 4611686018427387902) (k : Nat) (hk : 22 + l.length < k) :
    laws_markLabelS.f k l x = some (x + 2 * l.length, markAll mkLab (fun _ => 2) l x) := by
  have ht : total (fun _ : S89 => 2) l = 2 * l.length := total_const 2 l
  have h := mark_loop mkLab (fun _ => 2) 22 4611686018427387902 (fun _ => True) (fun k l x i => laws_markLabelS.l0 k l x i) ?_ ?_ l [] k x h0 (by rw [ht]; omega) hl (fun _ _ => trivial) (by omega)
  · rw [ht] at h
    simpa [laws_markLabelS.f] using h
  · intro k pre b rest x hk h0 hB hn _
    simp only [laws_markLabelS.l0]
    have hlen : (pre ++ b :: rest).length = pre.length + rest.length + 1 := by simp; omega
    rw [if_pos (by rw [hlen]; omega), markText_eq x (by omega) k (by omega)]
    simp only [Option.bind_some]
    rw [if_pos (by omega), w64 (x := x + 1) (by omega) (by omega), markText_eq (x + 1) (by omega) k (by omega)]
    simp only [Option.bind_some, Int.toNat_natCast, set_pre, List.set_set]
    rw [w64 (x := x + 1 + 1) (by omega) (by omega), w64 (x := (pre.length : Int) + 1) (by omega) (by omega)]
    have hr : (rd_T89 (pre ++ ⟨markOf x, (rd_T89 (pre ++ b :: rest) pre.length).f1⟩ :: rest) pre.length).f0 = markOf x := by
      unfold rd_T89
      simp only [Int.toNat_natCast, getD_pre]
    rw [hr]
    have e : x + 1 + 1 = x + ((2 : Nat) : Int) := by omega
    rw [e]
    rfl
  · intro k l x _
    simp only [laws_markLabelS.l0]
    rw [if_neg (by omega)]
theorem laws_heldLabelS_eq (l : List S89) (hl : l.length ≤ 140737488351232) (x : Int) (h0 : 0 ≤ x) (hx : x + 2 * l.length ≤ 4611686018427387902) (k : Nat) (hk : 22 + l.length < k) :
    laws_heldLabelS.f k (markAll mkLab (fun _ => 2) l x) x = some (x + 2 * l.length) := by
  have ht : total (fun _ : S89 => 2) l = 2 * l.length := total_const 2 l
  have h := held_loop mkLab (fun _ => 2) 22 4611686018427387902 (fun _ => True) (fun k l x i => laws_heldLabelS.l0 k l x i) ?_ ?_ l [] k x h0 (by rw [ht]; omega) hl (fun _ _ => trivial) (by omega)
  · rw [ht] at h
    simpa [laws_heldLabelS.f] using h
  · intro k pre b rest x hk h0 hB hn _
    have hlen : (pre ++ mkLab b x :: rest).length = pre.length + rest.length + 1 := by simp; omega
    have hr : rd_T89 (pre ++ mkLab b x :: rest) pre.length = mkLab b x := by
      unfold rd_T89
      simp only [Int.toNat_natCast, getD_pre]
    simp only [laws_heldLabelS.l0]
    rw [if_pos (by rw [hlen]; omega), if_pos (by omega), markText_eq x (by omega) k (by omega), hr]
    simp only [Option.bind_some, mkLab, if_true]
    rw [w64 (x := x + 1) (by omega) (by omega), markText_eq (x + 1) (by omega) k (by omega)]
    simp only [Option.bind_some, if_true]
    rw [w64 (x := x + 1 + 1) (by omega) (by omega), w64 (x := (pre.length : Int) + 1) (by omega) (by omega)]
    have e : x + 1 + 1 = x + ((2 : Nat) : Int) := by omega
    rw [e]
    rfl
  · intro k l x _
    simp only [laws_heldLabelS.l0]
    rw [if_neg (by omega)]

/-! ### MarkKs -/
def mkKey (b : List S89) (x : Int) : List S89 := markAll mkLab (fun _ => 2) b x
theorem total_le {β : Type} (sz : β → Nat) (c : Nat) : ∀ l : List β, (∀ b ∈ l, sz b ≤ c) → total sz l ≤ l.length * c
  | [], _ => by simp [total]
  | b :: l, h => by
    rw [total_cons, List.length_cons, Nat.succ_mul]
    have h1 := total_le sz c l (fun d hd => h d (List.mem_cons_of_mem _ hd))
    have h2 := h b List.mem_cons_self
    omega
theorem getD_preL (pre rest : List (List S89)) (b : List S89) : rd_L2 (pre ++ b :: rest) (pre.length : Int) = b := by
  unfold rd_L2
  simp only [Int.toNat_natCast, getD_pre]
theorem laws_markLabelSS_eq (l : List (List S89)) (hl : l.length ≤ 140737488351232) (hs : ∀ b ∈ l, b.length ≤ 1048576) (x : Int) (h0 : 0 ≤ x) (hx : x + total (fun b : List S89 => 2 * b.length) l ≤ 4611686018427387902) (k : Nat) (hk : 1048600 + l.length < k) :
    laws_markLabelSS.f k l x = some (x + total (fun b : List S89 => 2 * b.length) l, markAll mkKey (fun b => 2 * b.length) l x) := by
  have h := mark_loop mkKey (fun b => 2 * b.length) 1048600 4611686018427387902 (fun b => b.length ≤ 1048576) (fun k l x i => laws_markLabelSS.l0 k l x i) ?_ ?_ l [] k x h0 hx hl hs (by omega)
  · simpa [laws_markLabelSS.f] using h
  · intro k pre b rest x hk h0 hB hn hb
    simp only [laws_markLabelSS.l0]
    have hlen : (pre ++ b :: rest).length = pre.length + rest.length + 1 := by simp; omega
    rw [if_pos (by rw [hlen]; omega), if_pos (by omega)]
    simp only [Int.toNat_natCast, getD_pre, set_pre]
    rw [laws_markLabelS_eq b (by omega) x h0 (by omega) k (by omega)]
    simp only [Option.bind_some]
    rw [w64 (x := (pre.length : Int) + 1) (by omega) (by omega)]
    have e : x + 2 * (b.length : Int) = x + ((2 * b.length : Nat) : Int) := by omega
    rw [e]
    rfl
  · intro k l x _
    simp only [laws_markLabelSS.l0]
    rw [if_neg (by omega)]
theorem laws_heldLabelSS_eq (l : List (List S89)) (hl : l.length ≤ 140737488351232) (hs : ∀ b ∈ l, b.length ≤ 1048576) (x : Int) (h0 : 0 ≤ x) (hx : x + total (fun b : List S89 => 2 * b.length) l ≤ 4611686018427387902) (k : Nat) (hk : 1048600 + l.length < k) :
    laws_heldLabelSS.f k (markAll mkKey (fun b => 2 * b.length) l x) x = some (x + total (fun b : List S89 => 2 * b.length) l) := by
  have h := held_loop mkKey (fun b => 2 * b.length) 1048600 4611686018427387902 (fun b => b.length ≤ 1048576) (fun k l x i => laws_heldLabelSS.l0 k l x i) ?_ ?_ l [] k x h0 hx hl hs (by omega)
  · simpa [laws_heldLabelSS.f] using h
  · intro k pre b rest x hk h0 hB hn hb
    have hlen : (pre ++ mkKey b x :: rest).length = pre.length + rest.length + 1 := by simp; omega
    simp only [laws_heldLabelSS.l0]
    rw [if_pos (by rw [hlen]; omega), if_pos (by omega), getD_preL]
    unfold mkKey
    rw [laws_heldLabelS_eq b (by omega) x h0 (by omega) k (by omega)]
    simp only [Option.bind_some]
    rw [if_neg (by omega), w64 (x := (pre.length : Int) + 1) (by omega) (by omega)]
    have e : x + 2 * (b.length : Int) = x + ((2 * b.length : Nat) : Int) := by omega
    rw [e]
    rfl
  · intro k l x _
    simp only [laws_heldLabelSS.l0]
    rw [if_neg (by omega)]
theorem laws_eqLabelSS_refl (l : List (List S89)) (hl : l.length ≤ 1048576) (hs : ∀ b ∈ l, b.length ≤ 1048576) (k : Nat) (hk : 2200000 < k) : laws_eqLabelSS.f k l l = some true := by
  unfold laws_eqLabelSS.f
  rw [if_pos rfl]
  rw [all_loop (n := l.length) (by omega) 1048577 (fun _ => true) (fun k i => laws_eqLabelSS.l0 k l l i) (some true) ?_ ?_ l.length k 0 (by omega) (by omega) (by omega) (by omega)]
  · rw [allFrom_true (fun _ => rfl)]; rfl
  · intro k i hk h0 h1
    have hm : (rd_L2 l i).length ≤ 1048576 := by
      refine hs _ ?_
      unfold rd_L2
      rw [List.getD_eq_getElem?_getD, List.getElem?_eq_getElem (by omega)]
      exact List.getElem_mem (by omega)
    simp only [laws_eqLabelSS.l0]
    rw [if_pos h1, if_pos h0, if_pos h1, laws_eqLabelS_refl _ (by omega) _ (by omega)]
    rfl
  · intro k _
    simp only [laws_eqLabelSS.l0]
    rw [if_neg (by omega)]

/-! ### MarkA -/

/-! ### MarkAs -/
def szMA (b : S26) : Nat := 2 * b.f0.length + 3
def mkAl (b : S26) (x : Int) : S26 := ⟨markAll mkLab (fun _ => 2) b.f0 x, x + 2 * (b.f0.length : Int), x + 2 * (b.f0.length : Int) + 1, markOf (x + 2 * (b.f0.length : Int) + 2)⟩
theorem getD_preA (pre rest : List S26) (b : S26) : rd_T26 (pre ++ b :: rest) (pre.length : Int) = b := by
  unfold rd_T26
  simp only [Int.toNat_natCast, getD_pre]
theorem laws_markAlarmS_eq (l : List S26) (hl : l.length ≤ 140737488351232) (hs : ∀ b ∈ l, b.f0.length ≤ 1048576) (x : Int) (h0 : 0 ≤ x) (hx : x + total szMA l ≤ 4611686018427387902) (k : Nat) (hk : 1048600 + l.length < k) :
    laws_markAlarmS.f k l x = some (x + total szMA l, markAll mkAl szMA l x) := by
  have h := mark_loop mkAl szMA 1048600 4611686018427387902 (fun b => b.f0.length ≤ 1048576) (fun k l x i => laws_markAlarmS.l0 k l x i) ?_ ?_ l [] k x h0 hx hl hs (by omega)
  · simpa [laws_markAlarmS.f] using h
  · intro k pre b rest x hk h0 hB hn hb
    unfold szMA at hB
    simp only [laws_markAlarmS.l0]
    have hlen : (pre ++ b :: rest).length = pre.length + rest.length + 1 := by simp; omega
    rw [if_pos (by rw [hlen]; omega), if_pos (by omega), getD_preA]
    rw [laws_markLabelS_eq b.f0 (by omega) x h0 (by omega) k (by omega)]
    simp only [Option.bind_some, Int.toNat_natCast, set_pre]
    rw [w64 (x := x + 2 * (b.f0.length : Int) + 1) (by omega) (by omega), w64 (x := x + 2 * (b.f0.length : Int) + 1 + 1) (by omega) (by omega), w64 (x := x + 2 * (b.f0.length : Int) + 1 + 1 + 1) (by omega) (by omega), w64 (x := (pre.length : Int) + 1) (by omega) (by omega), markText_eq _ (by omega) k (by omega)]
    simp only [Option.bind_some]
    have e : x + 2 * (b.f0.length : Int) + 1 + 1 + 1 = x + ((szMA b : Nat) : Int) := by unfold szMA; omega
    have e2 : x + 2 * (b.f0.length : Int) + 1 + 1 = x + 2 * (b.f0.length : Int) + 2 := by omega
    rw [e, e2]
    rfl
  · intro k l x _
    simp only [laws_markAlarmS.l0]
    rw [if_neg (by omega)]
theorem szMA_le (b : S26) (h : b.f0.length ≤ 1048576) : szMA b ≤ 2097155 := by unfold szMA; omega

/-! ### Strs -/
def szS (l : List ByteArray) : Nat := l.length + (l.map (fun s => s.size)).sum
theorem laws_szStringS_eq (l : List ByteArray) (hl : l.length ≤ 9223372036854775807) (hs : ∀ s ∈ l, s.size ≤ 9223372036854775807) (left : Int) (h0 : 0 ≤ left) (h1 : left ≤ 1048576) (k : Nat) (hk : 1048577 < k) :
    laws_szStringS.f k l left = some (left' (szS l) left) := by
  unfold laws_szStringS.f szS
  rw [left_of_wrap (n := l.length) hl h0 h1 (fun t => laws_szStringS.l0 k l t 0), ← left_add _ _ _ h0]
  by_cases hz : left' l.length left < 0
  · rw [if_pos hz, if_pos hz]
  · rw [if_neg hz, if_neg hz]
    have hle := left_ge h0 hz
    rw [budget_loop l (by omega) (fun s => s.size) ByteArray.empty 0 (fun k t i => laws_szStringS.l0 k l t i) ?_ ?_ l.length k 0 _ (by omega) (by omega) (by omega) (left_le h1) (by omega)]
    · simp
    · intro k i left _ hi hi' hl0 hl1
      simp only [laws_szStringS.l0]
      rw [if_pos hi', if_pos hi]
      have hj : i.toNat < l.length := by omega
      have hb : (rdOf ByteArray.empty l i).size ≤ 9223372036854775807 := by
        show (l.getD i.toNat ByteArray.empty).size ≤ _
        rw [List.getD_eq_getElem?_getD, List.getElem?_eq_getElem hj]
        exact hs _ (List.getElem_mem hj)
      exact left_of_wrap hb hl0 hl1 (fun t => laws_szStringS.l0 k l t (wrap64 (i + 1)))
    · intro k left _
      simp only [laws_szStringS.l0]
      rw [if_neg (by omega)]
theorem laws_toStringS_eq (l : List ByteArray) (hl : l.length ≤ 1048576) (k : Nat) (hk : 1048577 < k) : laws_toStringS.f k l = some l := by
  unfold laws_toStringS.f
  rw [if_pos (by omega), if_pos (by omega)]
  have h := fill_loop l (by omega) (fun s => s) ByteArray.empty 0 (fun k out i => laws_toStringS.l0 k l out i) ?_ ?_ k (⟨#[]⟩ : ByteArray) (by omega)
  · simpa using h
  · intro k i out _ hi hi' ho
    simp only [laws_toStringS.l0]
    rw [if_pos hi', if_pos hi, if_pos (by omega)]
    rfl
  · intro k out _
    simp only [laws_toStringS.l0]
    rw [if_neg (by omega)]
theorem laws_eqStringS_refl (l : List ByteArray) (hl : l.length ≤ 1048576) (k : Nat) (hk : 1048577 < k) : laws_eqStringS.f k l l = some true := by
  unfold laws_eqStringS.f
  rw [if_pos rfl]
  rw [all_loop (n := l.length) (by omega) 0 (fun _ => true) (fun k i => laws_eqStringS.l0 k l l i) (some true) ?_ ?_ l.length k 0 (by omega) (by omega) (by omega) (by omega)]
  · rw [allFrom_true (fun _ => rfl)]; rfl
  · intro k i _ h0 h1
    simp only [laws_eqStringS.l0]
    rw [if_pos h1, if_pos h0, if_pos h1]
  · intro k _
    simp only [laws_eqStringS.l0]
    rw [if_neg (by omega)]
theorem len_le_szS (l : List ByteArray) : l.length ≤ szS l := by unfold szS; omega
theorem sized_strs (l : List ByteArray) (h : szS l ≤ 1048576) : ∀ s ∈ l, s.size ≤ 1048576 := by
  intro s hs
  have key : ∀ (l : List ByteArray), s ∈ l → s.size ≤ (l.map (fun s => s.size)).sum := by
    intro l
    induction l with
    | nil => intro h; simp at h
    | cons a l ih =>
      intro h
      rcases List.mem_cons.1 h with rfl | h
      · simp
      · have := ih h
        simp only [List.map_cons, List.sum_cons]
        omega
  have := key l hs
  unfold szS at h
  omega

/-! ### MarkS -/
theorem laws_markStringS_eq (l : List ByteArray) (hl : l.length ≤ 140737488351232) (x : Int) (h0 : 0 ≤ x) (hx : x + l.length ≤ 4611686018427387902) (k : Nat) (hk : 22 + l.length < k) :
    laws_markStringS.f k l x = some (x + l.length, markAll (fun _ x => markOf x) (fun _ => 1) l x) := by
  have ht : total (fun _ : ByteArray => 1) l = l.length := by rw [total_const 1 l]; omega
  have h := mark_loop (fun (_ : ByteArray) x => markOf x) (fun _ => 1) 22 4611686018427387902 (fun _ => True) (fun k l x i => laws_markStringS.l0 k l x i) ?_ ?_ l [] k x h0 (by rw [ht]; omega) hl (fun _ _ => trivial) (by omega)
  · rw [ht] at h
    simpa [laws_markStringS.f] using h
  · intro k pre b rest x hk h0 hB hn _
    simp only [laws_markStringS.l0]
    have hlen : (pre ++ b :: rest).length = pre.length + rest.length + 1 := by simp; omega
    rw [if_pos (by rw [hlen]; omega), markText_eq x (by omega) k (by omega)]
    simp only [Option.bind_some]
    rw [if_pos (by omega), w64 (x := x + 1) (by omega) (by omega), w64 (x := (pre.length : Int) + 1) (by omega) (by omega)]
    simp only [Int.toNat_natCast, set_pre]
    rfl
  · intro k l x _
    simp only [laws_markStringS.l0]
    rw [if_neg (by omega)]

theorem FnExactKeys (a : List S62) (b : List ByteArray) (ha : WfAs a) (hb : b.length ≤ 9223372036854775807 ∧ ∀ s ∈ b, s.size ≤ 9223372036854775807) : ∃ k, laws_FnExactKeys.f k a b = some true := by
  obtain ⟨m, hm⟩ : ∃ m : Nat, 1099530000000 < m := ⟨1099530000001, by omega⟩
  refine ⟨m, laws_FnExactKeys.f_of ?_⟩
  unfold laws_FnExactKeys.Facts
  obtain ⟨left1, hleft1⟩ : ∃ x, x = left' (szAs a) 1048576 := ⟨_, rfl⟩
  have h1 := laws_szAlarmS_eq a ha 1048576 (by omega) (by omega) m (by omega)
  rw [← hleft1] at h1
  by_cases hz1 : left1 < 0
  · exact Or.inl ⟨left1, h1, decide_eq_true hz1⟩
  have hb1 : ((szAs a : Nat) : Int) ≤ 1048576 := left_ge (by omega) (by rw [← hleft1]; exact hz1)
  have hc1 : left1 ≤ 1048576 := by rw [hleft1]; exact left_le (by omega)
  obtain ⟨left2, hleft2⟩ : ∃ x, x = left' (szS b) left1 := ⟨_, rfl⟩
  have h2 := laws_szStringS_eq b hb.1 hb.2 left1 (by omega) hc1 m (by omega)
  rw [← hleft2] at h2
  by_cases hz2 : left2 < 0
  · exact Or.inr (Or.inl ⟨left1, left2, h1, h2, decide_eq_false hz1, decide_eq_true hz2⟩)
  have hb2 : ((szS b : Nat) : Int) ≤ left1 := left_ge (by omega) (by rw [← hleft2]; exact hz2)
  refine Or.inr (Or.inr ?_)
  have la := len_le_szAs a
  have lb : b.length ≤ 1048576 := by have := len_le_szS b; omega
  have qa := okAs_of a (by omega)
  have fa : ∀ x ∈ alarmsOf a, x.f0.length ≤ 1048576 := fun x hx => (qa.2 x hx).1
  have ka := keysFrom_small b (alarmsOf a) [] fa (by simp)
  have kl := keysFrom_length b (alarmsOf a) []
  simp only [List.length_nil, Nat.zero_add] at kl
  have kl2 : (keysFrom b (alarmsOf a) []).length ≤ 1048576 := Nat.le_trans kl qa.1
  have ta := total_le szMA 2097155 (alarmsOf a) (fun x hx => szMA_le x (fa x hx))
  have tk := total_le (fun x : List S89 => 2 * x.length) 2097152 (keysFrom b (alarmsOf a) []) (fun x hx => by have := ka x hx; omega)
  have qa1 := qa.1
  have hA : (alarmsOf a).length * 2097155 ≤ 1048576 * 2097155 := Nat.mul_le_mul_right _ qa1
  have hK : (keysFrom b (alarmsOf a) []).length * 2097152 ≤ 1048576 * 2097152 := Nat.mul_le_mul_right _ kl2
  have m1 := laws_markAlarmS_eq (alarmsOf a) (by omega) fa 1 (by omega) (by omega) m (by omega)
  have m2 := laws_markStringS_eq b (by omega) (1 + total szMA (alarmsOf a)) (by omega) (by omega) m (by omega)
  have m3 := laws_markLabelSS_eq (keysFrom b (alarmsOf a) []) (by omega) ka 1 (by omega) (by omega) m (by omega)
  have d3 := laws_heldLabelSS_eq (keysFrom b (alarmsOf a) []) (by omega) ka 1 (by omega) (by omega) m (by omega)
  exact ⟨left1, left2, alarmsOf a, b, keysFrom b (alarmsOf a) [], _, _, _, _, _, _, h1, h2, laws_toAlarmS_eq a (by omega) m (by omega), laws_toStringS_eq b lb m (by omega), spec_Keys_eq (alarmsOf a) b qa1 fa lb m hm, impl_Keys_eq (alarmsOf a) b qa1 fa lb m (by omega),
    laws_eqLabelSS_refl _ kl2 ka m (by omega), laws_eqAlarmS_refl _ qa m (by omega), laws_eqStringS_refl b lb m (by omega), m1, m2, m3, d3, decide_eq_false hz1, decide_eq_false hz2, decide_eq_false (by omega), decide_eq_false (by omega), bne_self_eq_false _⟩

end Go.Proofs.Ytgindocfjoalhaa.Pure
