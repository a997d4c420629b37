/- The program's SameChain returns what the reference's SameChain returns, for all arguments, and leaves them alone; no conditions. -/
import Derived.Test.YtglefglknlcojabPFnExactSameChainx6
import Derived.Test.YtglefglknlcojabM0
import Derived.Test.YtglefglknlcojabM1
import Derived.Test.YtglefglknlcojabM2
import Derived.Test.YtglefglknlcojabM3
import Derived.Test.YtglefglknlcojabM4
import Derived.Test.YtglefglknlcojabM5
set_option linter.unusedVariables false
set_option linter.unusedSimpArgs false
namespace Go.Proofs.Ytglefglknlcojab.Pure
open Go.RowKit Go.Proofs.Ytglefglknlcojab.PFnExactSameChain Go.Proofs.YtglefglknlcojabW.PrintWords Go.Proofs.YtglefglknlcojabW.PrintLast Go.Proofs.Ytglefglknlcojab.M0 Go.Proofs.Ytglefglknlcojab.M1 Go.Proofs.Ytglefglknlcojab.M2 Go.Proofs.Ytglefglknlcojab.M3 Go.Proofs.Ytglefglknlcojab.M4 Go.Proofs.Ytglefglknlcojab.M5

/-! ### LabS -/
def labOf (x : S88) : S90 := ⟨x.f0, x.f1⟩
def labsOf (l : List S88) : List S90 := l.map labOf
def szLab (x : S88) : Nat := x.f0.size + x.f1.size
def szL (l : List S88) : Nat := l.length + (l.map szLab).sum
/-- Sizes that Go knows. -/
def WfL (l : List S88) : Prop := l.length ≤ 9223372036854775807 ∧ ∀ x ∈ l, x.f0.size ≤ 9223372036854775807 ∧ x.f1.size ≤ 9223372036854775807
theorem labsOf_length (l : List S88) : (labsOf l).length = l.length := by simp [labsOf]
theorem len_le_szL (l : List S88) : l.length ≤ szL l := by unfold szL; omega
theorem sum_mem {α : Type} (f : α → Nat) : ∀ (l : List α) (x : α), x ∈ l → f x ≤ (l.map f).sum
  | [], x, h => by simp at h
  | a :: l, x, h => by
    rcases List.mem_cons.1 h with rfl | h
    · simp
    · have := sum_mem f l x h
      simp only [List.map_cons, List.sum_cons]
      omega
theorem laws_szLabel_eq (a b : ByteArray) (ha : a.size ≤ 9223372036854775807) (hb : b.size ≤ 9223372036854775807) (left : Int) (h0 : 0 ≤ left) (h1 : left ≤ 1048576) : laws_szLabel.f a b left = some (left' (a.size + b.size) left) := by
  unfold laws_szLabel.f
  rw [← left_add _ _ _ h0, left_of_wrap ha h0 h1 (fun t => if (wrap64 (t - (b.size : Int))) < 0 then (some (-1)) else (some (wrap64 (t - (b.size : Int)))))]
  by_cases hz : left' a.size left < 0
  · rw [if_pos hz, if_pos hz]
  · rw [if_neg hz, if_neg hz]
    have hle := left_ge h0 hz
    have e : left' a.size left = left - a.size := by unfold left'; rw [if_pos hle]
    rw [left_of_wrap hb (by omega) (by omega) (fun t => some t)]
    by_cases hy : left' b.size (left' a.size left) < 0
    · rw [if_pos hy]
      rw [left_neg_one (by omega) hy]
    · rw [if_neg hy]
theorem rdML_mem (l : List S88) (i : Int) (h0 : 0 ≤ i) (h1 : i < (l.length : Int)) : rd_T88 l i ∈ l := by
  unfold rd_T88
  rw [List.getD_eq_getElem?_getD, List.getElem?_eq_getElem (by omega)]
  exact List.getElem_mem (by omega)
theorem laws_szLabelS_eq (l : List S88) (hl : WfL l) (left : Int) (h0 : 0 ≤ left) (h1 : left ≤ 1048576) (k : Nat) (hk : 1048577 < k) :
    laws_szLabelS.f k l left = some (left' (szL l) left) := by
  unfold laws_szLabelS.f szL
  rw [left_of_wrap (n := l.length) hl.1 h0 h1 (fun t => laws_szLabelS.l0 k l t 0), ← left_add _ _ _ h0]
  by_cases hz : left' l.length left < 0
  · rw [if_pos hz, if_pos hz]
  · rw [if_neg hz, if_neg hz]
    have hle := left_ge h0 hz
    rw [budget_loop l (by omega) szLab z88 0 (fun k t i => laws_szLabelS.l0 k l t i) ?_ ?_ l.length k 0 _ (by omega) (by omega) (by omega) (left_le h1) (by omega)]
    · simp
    · intro k i left _ hi hi' hl0 hl1
      have hm := hl.2 _ (rdML_mem l i hi hi')
      simp only [laws_szLabelS.l0]
      rw [if_pos hi', if_pos hi, laws_szLabel_eq _ _ hm.1 hm.2 _ hl0 hl1]
      rfl
    · intro k left _
      simp only [laws_szLabelS.l0]
      rw [if_neg (by omega)]
theorem laws_toLabelS_eq (l : List S88) (hl : l.length ≤ 1048576) (k : Nat) (hk : 1048577 < k) : laws_toLabelS.f k l = some (labsOf l) := by
  unfold laws_toLabelS.f
  rw [if_pos (by omega), if_pos (by omega)]
  have h := fill_loop l (by omega) labOf z88 0 (fun k out i => laws_toLabelS.l0 k l out i) ?_ ?_ k z90 (by omega)
  · exact h
  · intro k i out _ hi hi' ho
    simp only [laws_toLabelS.l0]
    rw [if_pos hi', if_pos hi]
    simp only [laws_toLabel.f, Option.bind_some]
    rw [if_pos (by omega)]
    rfl
  · intro k out _
    simp only [laws_toLabelS.l0]
    rw [if_neg (by omega)]
theorem sized_labs (l : List S88) (h : szL l ≤ 1048576) : ∀ x ∈ labsOf l, x.f0.size ≤ 1048576 ∧ x.f1.size ≤ 1048576 := by
  intro x hx
  obtain ⟨y, hy, rfl⟩ := List.mem_map.1 hx
  have := sum_mem szLab l y hy
  have h1 : y.f0.size + y.f1.size ≤ (l.map szLab).sum := this
  unfold szL at h
  show y.f0.size ≤ _ ∧ y.f1.size ≤ _
  omega

/-! ### EqL -/
theorem laws_eqLabelS_refl (l : List S90) (hl : l.length ≤ 140737488351232) (k : Nat) (hk : l.length < k) : laws_eqLabelS.f k l l = some true := by
  unfold laws_eqLabelS.f
  rw [if_pos rfl]
  rw [all_loop (n := l.length) (by omega) 0 (fun _ => true) (fun k i => laws_eqLabelS.l0 k l l i) (some true) ?_ ?_ l.length k 0 (by omega) (by omega) (by omega) (by omega)]
  · rw [allFrom_true (fun _ => rfl)]; rfl
  · intro k i _ h0 h1
    simp only [laws_eqLabelS.l0]
    rw [if_pos h1, if_pos h0, if_pos h1]
    simp only [laws_eqLabel.f, Option.bind_some, if_true]
  · intro k _
    simp only [laws_eqLabelS.l0]
    rw [if_neg (by omega)]

/-! ### AlarmS -/
def WfA (l : List S88) (note : ByteArray) : Prop := WfL l ∧ note.size ≤ 9223372036854775807
theorem laws_szAlarm_eq (l : List S88) (s e : Int) (note : ByteArray) (h : WfL l) (hn : note.size ≤ 9223372036854775807) (left : Int) (h0 : 0 ≤ left) (h1 : left ≤ 1048576) (k : Nat) (hk : 1048577 < k) :
    laws_szAlarm.f k l s e note left = some (left' (szL l + note.size) left) := by
  unfold laws_szAlarm.f
  rw [laws_szLabelS_eq l h left h0 h1 k hk, ← left_add _ _ _ h0]
  simp only [Option.bind_some]
  by_cases hz : left' (szL l) left < 0
  · rw [if_pos hz, if_pos hz]
  · rw [if_neg hz, if_neg hz]
    have hle := left_le (t := szL l) h1
    rw [left_of_wrap hn (by omega) hle (fun t => some t)]
    by_cases hy : left' note.size (left' (szL l) left) < 0
    · rw [if_pos hy, left_neg_one (by omega) hy]
    · rw [if_neg hy]
theorem laws_toAlarm_eq (l : List S88) (s e : Int) (note : ByteArray) (hl : l.length ≤ 1048576) (k : Nat) (hk : 1048577 < k) : laws_toAlarm.f k l s e note = some (labsOf l, s, e, note) := by
  unfold laws_toAlarm.f
  rw [laws_toLabelS_eq l hl k hk]
  rfl
theorem laws_eqAlarm_refl (l : List S90) (s e : Int) (note : ByteArray) (hl : l.length ≤ 140737488351232) (k : Nat) (hk : l.length < k) : laws_eqAlarm.f k l s e note l s e note = some true := by
  unfold laws_eqAlarm.f
  rw [laws_eqLabelS_refl l hl k hk]
  simp

/-! ### AlarmsS -/
def WfA1 (x : S37) : Prop := WfL x.f0 ∧ (Lit.int .i64 x.f1).wf = true ∧ (Lit.int .i64 x.f2).wf = true ∧ x.f3.size ≤ 9223372036854775807
def WfAs (l : List S37) : Prop := l.length ≤ 9223372036854775807 ∧ ∀ x ∈ l, WfA1 x
def szA (x : S37) : Nat := szL x.f0 + x.f3.size
def szAs (l : List S37) : Nat := l.length + (l.map szA).sum
def alarmOf (x : S37) : S41 := ⟨labsOf x.f0, x.f1, x.f2, x.f3⟩
def alarmsOf (l : List S37) : List S41 := l.map alarmOf
def OkA (a : S41) : Prop := a.f0.length ≤ 1048576 ∧ (∀ x ∈ a.f0, x.f0.size ≤ 1048576 ∧ x.f1.size ≤ 1048576) ∧ a.f3.size ≤ 1048576
def OkAs (l : List S41) : Prop := l.length ≤ 1048576 ∧ ∀ a ∈ l, OkA a
theorem len_le_szAs (l : List S37) : l.length ≤ szAs l := by unfold szAs; omega
theorem mem_szAs (l : List S37) (x : S37) (hx : x ∈ l) : szA x ≤ szAs l := by
  have := sum_mem szA l x hx
  unfold szAs
  omega
theorem okA_of (x : S37) (h : szA x ≤ 1048576) : OkA (alarmOf x) := by
  unfold szA at h
  have := len_le_szL x.f0
  refine ⟨?_, ?_, ?_⟩
  · show (labsOf x.f0).length ≤ _
    rw [labsOf_length]; omega
  · exact sized_labs x.f0 (by omega)
  · show x.f3.size ≤ _
    omega
theorem okAs_of (l : List S37) (h : szAs l ≤ 1048576) : OkAs (alarmsOf l) := by
  refine ⟨?_, fun a ha => ?_⟩
  · have := len_le_szAs l
    simp [alarmsOf]; omega
  · obtain ⟨x, hx, rfl⟩ := List.mem_map.1 ha
    have := mem_szAs l x hx
    exact okA_of x (by omega)
theorem rdMA_mem (l : List S37) (i : Int) (h0 : 0 ≤ i) (h1 : i < (l.length : Int)) : rd_T37 l i ∈ l := by
  unfold rd_T37
  rw [List.getD_eq_getElem?_getD, List.getElem?_eq_getElem (by omega)]
  exact List.getElem_mem (by omega)
theorem rdA_mem (l : List S41) (i : Int) (h0 : 0 ≤ i) (h1 : i < (l.length : Int)) : rd_T41 l i ∈ l := by
  unfold rd_T41
  rw [List.getD_eq_getElem?_getD, List.getElem?_eq_getElem (by omega)]
  exact List.getElem_mem (by omega)
theorem laws_szAlarmS_eq (l : List S37) (hl : WfAs l) (left : Int) (h0 : 0 ≤ left) (h1 : left ≤ 1048576) (k : Nat) (hk : 2200000 < k) :
    laws_szAlarmS.f k l left = some (left' (szAs l) left) := by
  unfold laws_szAlarmS.f szAs
  rw [left_of_wrap (n := l.length) hl.1 h0 h1 (fun t => laws_szAlarmS.l0 k l t 0), ← left_add _ _ _ h0]
  by_cases hz : left' l.length left < 0
  · rw [if_pos hz, if_pos hz]
  · rw [if_neg hz, if_neg hz]
    have hle := left_ge h0 hz
    rw [budget_loop l (by omega) szA z37 1048578 (fun k t i => laws_szAlarmS.l0 k l t i) ?_ ?_ l.length k 0 _ (by omega) (by omega) (by omega) (left_le h1) (by omega)]
    · simp
    · intro k i left hk hi hi' hl0 hl1
      have hm := hl.2 _ (rdMA_mem l i hi hi')
      simp only [laws_szAlarmS.l0]
      rw [if_pos hi', if_pos hi, laws_szAlarm_eq _ _ _ _ hm.1 hm.2.2.2 _ hl0 hl1 _ (by omega)]
      rfl
    · intro k left _
      simp only [laws_szAlarmS.l0]
      rw [if_neg (by omega)]
theorem laws_toAlarmS_eq (l : List S37) (hs : szAs l ≤ 1048576) (k : Nat) (hk : 2200000 < k) : laws_toAlarmS.f k l = some (alarmsOf l) := by
  have hl := len_le_szAs l
  unfold laws_toAlarmS.f
  rw [if_pos (by omega), if_pos (by omega)]
  have h := fill_loop l (by omega) alarmOf z37 1048578 (fun k out i => laws_toAlarmS.l0 k l out i) ?_ ?_ k z41 (by omega)
  · exact h
  · intro k i out hk hi hi' ho
    have hm := mem_szAs l _ (rdMA_mem l i hi hi')
    have hm2 := len_le_szL (rd_T37 l i).f0
    unfold szA at hm
    simp only [laws_toAlarmS.l0]
    rw [if_pos hi', if_pos hi, laws_toAlarm_eq _ _ _ _ (by omega) _ (by omega)]
    simp only [Option.bind_some]
    rw [if_pos (by omega)]
    rfl
  · intro k out _
    simp only [laws_toAlarmS.l0]
    rw [if_neg (by omega)]
theorem laws_eqAlarmS_refl (l : List S41) (hl : OkAs l) (k : Nat) (hk : 2200000 < k) : laws_eqAlarmS.f k l l = some true := by
  have hl1 := hl.1
  unfold laws_eqAlarmS.f
  rw [if_pos rfl]
  rw [all_loop (n := l.length) (by omega) 1048577 (fun _ => true) (fun k i => laws_eqAlarmS.l0 k l l i) (some true) ?_ ?_ l.length k 0 (by omega) (by omega) (by omega) (by omega)]
  · rw [allFrom_true (fun _ => rfl)]; rfl
  · intro k i hk h0 h1
    have hm := (hl.2 _ (rdA_mem l i h0 h1)).1
    simp only [laws_eqAlarmS.l0]
    rw [if_pos h1, if_pos h0, if_pos h1, laws_eqAlarm_refl _ _ _ _ (by omega) _ (by omega)]
    rfl
  · intro k _
    simp only [laws_eqAlarmS.l0]
    rw [if_neg (by omega)]
theorem laws_szChain_eq (f : Int) (l : List S37) (hl : WfAs l) (left : Int) (h0 : 0 ≤ left) (h1 : left ≤ 1048576) (k : Nat) (hk : 2200000 < k) :
    laws_szChain.f k f l left = some (left' (szAs l) left) := by
  unfold laws_szChain.f
  rw [laws_szAlarmS_eq l hl left h0 h1 k hk]
  simp only [Option.bind_some]
  by_cases hz : left' (szAs l) left < 0
  · rw [if_pos hz, left_neg_one h0 hz]
  · rw [if_neg hz]
theorem laws_toChain_eq (f : Int) (l : List S37) (hs : szAs l ≤ 1048576) (k : Nat) (hk : 2200000 < k) : laws_toChain.f k f l = some (f, alarmsOf l) := by
  unfold laws_toChain.f
  rw [laws_toAlarmS_eq l hs k hk]; rfl
theorem laws_eqChain_refl (f : Int) (l : List S41) (hl : OkAs l) (k : Nat) (hk : 2200000 < k) : laws_eqChain.f k f l f l = some true := by
  unfold laws_eqChain.f
  rw [laws_eqAlarmS_refl l hl k hk]
  simp

/-! ### SameSet -/
def labEq (x y : S90) : Bool := (x.f0.toList == y.f0.toList) && (x.f1.toList == y.f1.toList)
def sameB (a b : List S90) (i : Int) : Bool := labEq (rd_T90 a i) (rd_T90 b i)
def sameSet (a b : List S90) : Bool := decide (a.length = b.length) && allFrom (sameB a b) a.length 0
theorem same_round (a b : List S90) (i : Int) (x : Option Bool) :
    (if (!((((rd_T90 a i).f0).toList) == (((rd_T90 b i).f0).toList)) || (!((((rd_T90 a i).f1).toList) == (((rd_T90 b i).f1).toList)))) = true then (some false) else x) = if sameB a b i = true then x else some false := by
  unfold sameB labEq
  cases ((rd_T90 a i).f0.toList == (rd_T90 b i).f0.toList) <;> cases ((rd_T90 a i).f1.toList == (rd_T90 b i).f1.toList) <;> simp
theorem spec_SameSet_eq (a b : List S90) (ha : a.length ≤ 140737488351232) (k : Nat) (hk : a.length < k) : spec_SameSet.f k a b = some (sameSet a b) := by
  unfold spec_SameSet.f sameSet
  by_cases h : a.length = b.length
  · rw [if_pos (by omega), decide_eq_true h, Bool.true_and]
    rw [all_loop (n := a.length) ha 0 (sameB a b) (fun k i => spec_SameSet.l0 k a b i) (some true) ?_ ?_ a.length k 0 (by omega) (by omega) (by omega) (by omega), bool_of_if]
    · intro k i _ h0 h1
      simp only [spec_SameSet.l0]
      rw [if_pos h1, if_pos h0, if_pos (by omega), same_round]
    · intro k _
      simp only [spec_SameSet.l0]
      rw [if_neg (by omega)]
  · rw [if_neg (by omega), decide_eq_false h]; rfl
theorem impl_SameSet_eq (a b : List S90) (ha : a.length ≤ 140737488351232) (k : Nat) (hk : a.length < k) : impl_SameSet.f k a b = some (sameSet a b) := by
  unfold impl_SameSet.f sameSet
  by_cases h : a.length = b.length
  · rw [if_pos (by omega), decide_eq_true h, Bool.true_and]
    rw [all_loop (n := a.length) ha 0 (sameB a b) (fun k i => impl_SameSet.l0 k a b a.length i) (some true) ?_ ?_ a.length k 0 (by omega) (by omega) (by omega) (by omega), bool_of_if]
    · intro k i _ h0 h1
      simp only [impl_SameSet.l0]
      rw [if_pos h1, if_pos h0, if_pos h1, if_pos (by omega), same_round]
    · intro k _
      simp only [impl_SameSet.l0]
      rw [if_neg (by omega)]
  · rw [if_neg (by omega), decide_eq_false h]; rfl

/-! ### SameAlarm -/
def sameAlarm (l : List S90) (s e : Int) (n : ByteArray) (l' : List S90) (s' e' : Int) (n' : ByteArray) : Bool := sameSet l l' && (decide (s = s') && (decide (e = e') && (n.toList == n'.toList)))
theorem spec_SameAlarm_eq (l : List S90) (s e : Int) (n : ByteArray) (l' : List S90) (s' e' : Int) (n' : ByteArray) (hl : l.length ≤ 140737488351232) (k : Nat) (hk : l.length < k) : spec_SameAlarm.f k l s e n l' s' e' n' = some (sameAlarm l s e n l' s' e' n') := by
  unfold spec_SameAlarm.f sameAlarm
  rw [spec_SameSet_eq l l' hl k hk]
  cases sameSet l l' <;> by_cases h1 : s = s' <;> by_cases h2 : e = e' <;> simp [h1, h2]
theorem impl_SameAlarm_eq (l : List S90) (s e : Int) (n : ByteArray) (l' : List S90) (s' e' : Int) (n' : ByteArray) (hl : l.length ≤ 140737488351232) (k : Nat) (hk : l.length < k) : impl_SameAlarm.f k l s e n l' s' e' n' = some (sameAlarm l s e n l' s' e' n') := by
  unfold impl_SameAlarm.f sameAlarm
  rw [impl_SameSet_eq l l' hl k hk]
  cases sameSet l l' <;> by_cases h1 : s = s' <;> by_cases h2 : e = e' <;> simp [h1, h2]

/-! ### SameChain -/
def sameAlB (a b : List S41) (i : Int) : Bool := sameAlarm (rd_T41 a i).f0 (rd_T41 a i).f1 (rd_T41 a i).f2 (rd_T41 a i).f3 (rd_T41 b i).f0 (rd_T41 b i).f1 (rd_T41 b i).f2 (rd_T41 b i).f3
def sameAlarms (a b : List S41) : Bool := decide (a.length = b.length) && allFrom (sameAlB a b) a.length 0
theorem spec_l4Same_eq (a b : List S41) (ha : OkAs a) (k : Nat) (hk : 2200000 < k) : spec_l4Same.f k a b = some (sameAlarms a b) := by
  have ha1 := ha.1
  unfold spec_l4Same.f sameAlarms
  by_cases h : a.length = b.length
  · rw [if_pos (by omega), decide_eq_true h, Bool.true_and]
    rw [all_loop (n := a.length) (by omega) 1048577 (sameAlB a b) (fun k i => spec_l4Same.l0 k a b i) (some true) ?_ ?_ a.length k 0 (by omega) (by omega) (by omega) (by omega), bool_of_if]
    · intro k i hk h0 h1
      have hm := (ha.2 _ (rdA_mem a i h0 h1)).1
      simp only [spec_l4Same.l0]
      rw [if_pos h1, if_pos h0, if_pos (by omega), spec_SameAlarm_eq _ _ _ _ _ _ _ _ (by omega) _ (by omega)]
      rfl
    · intro k _
      simp only [spec_l4Same.l0]
      rw [if_neg (by omega)]
  · rw [if_neg (by omega), decide_eq_false h]; rfl
theorem impl_sameAlarms_eq (a b : List S41) (ha : OkAs a) (k : Nat) (hk : 2200000 < k) : impl_sameAlarms.f k a b = some (sameAlarms a b) := by
  have ha1 := ha.1
  unfold impl_sameAlarms.f sameAlarms
  by_cases h : a.length = b.length
  · rw [if_pos (by omega), decide_eq_true h, Bool.true_and]
    rw [all_loop (n := a.length) (by omega) 1048577 (sameAlB a b) (fun k i => impl_sameAlarms.l0 k a b a.length i) (some true) ?_ ?_ a.length k 0 (by omega) (by omega) (by omega) (by omega), bool_of_if]
    · intro k i hk h0 h1
      have hm := (ha.2 _ (rdA_mem a i h0 h1)).1
      simp only [impl_sameAlarms.l0]
      rw [if_pos h1, if_pos h0, if_pos h1, if_pos (by omega), impl_SameAlarm_eq _ _ _ _ _ _ _ _ (by omega) _ (by omega)]
      rfl
    · intro k _
      simp only [impl_sameAlarms.l0]
      rw [if_neg (by omega)]
  · rw [if_neg (by omega), decide_eq_false h]; rfl
def sameChain (f : Int) (a : List S41) (g : Int) (b : List S41) : Bool := decide (f = g) && sameAlarms a b
theorem spec_SameChain_eq (f : Int) (a : List S41) (g : Int) (b : List S41) (ha : OkAs a) (k : Nat) (hk : 2200000 < k) : spec_SameChain.f k f a g b = some (sameChain f a g b) := by
  unfold spec_SameChain.f sameChain
  rw [spec_l4Same_eq a b ha k hk]
  by_cases h : f = g <;> simp [h]
theorem impl_SameChain_eq (f : Int) (a : List S41) (g : Int) (b : List S41) (ha : OkAs a) (k : Nat) (hk : 2200000 < k) : impl_SameChain.f k f a g b = some (sameChain f a g b) := by
  unfold impl_SameChain.f sameChain
  rw [impl_sameAlarms_eq a b ha k hk]
  by_cases h : f = g <;> simp [h]

theorem FnExactSameChain (aF : Int) (aL : List S37) (bF : Int) (bL : List S37) (ha : (Lit.int .i64 aF).wf = true ∧ WfAs aL) (hb : (Lit.int .i64 bF).wf = true ∧ WfAs bL) : ∃ k, laws_FnExactSameChain.f k aF aL bF bL = some true := by
  obtain ⟨m, hm⟩ : ∃ m : Nat, 16777216 < m := ⟨16777217, by omega⟩
  have hm1 : 16777216 < m + 1 := by omega
  have hm2 : 16777216 < m + 2 := by omega
  have hm11 : 16777216 < m + 1 + 1 := by omega
  refine ⟨m + 2, ?_⟩
  unfold laws_FnExactSameChain.f
  obtain ⟨left1, hleft1⟩ : ∃ x, x = left' (szAs aL) 1048576 := ⟨_, rfl⟩
  rw [laws_szChain_eq aF aL ha.2 _ (by omega) (by omega) _ (by omega), ← hleft1]
  simp only [Option.bind_some]
  by_cases hz1 : left1 < 0
  · rw [if_pos hz1]
  rw [if_neg hz1]
  have hb1 : ((szAs aL : Nat) : Int) ≤ 1048576 := left_ge (by omega) (by rw [← hleft1]; exact hz1)
  have hc1 : left1 ≤ 1048576 := by rw [hleft1]; exact left_le (by omega)
  obtain ⟨left2, hleft2⟩ : ∃ x, x = left' (szAs bL) left1 := ⟨_, rfl⟩
  rw [laws_szChain_eq bF bL hb.2 _ (by omega) (by omega) _ (by omega), ← hleft2]
  simp only [Option.bind_some]
  by_cases hz2 : left2 < 0
  · rw [if_pos hz2]
  rw [if_neg hz2]
  have hb2 : ((szAs bL : Nat) : Int) ≤ left1 := left_ge (by omega) (by rw [← hleft2]; exact hz2)
  have hc2 : left2 ≤ 1048576 := by rw [hleft2]; exact left_le (by omega)
  clear hleft1
  clear hleft2
  have la := len_le_szAs aL
  have qa := okAs_of aL (by omega)
  have ta : ∀ k, 16777216 < k → laws_toChain.f k aF aL = some (aF, alarmsOf aL) := fun k hk => laws_toChain_eq aF aL (by omega) k (by omega)
  have ea : ∀ k, 16777216 < k → laws_eqChain.f k aF (alarmsOf aL) aF (alarmsOf aL) = some true := fun k hk => laws_eqChain_refl _ _ qa k (by omega)
  have lb := len_le_szAs bL
  have qb := okAs_of bL (by omega)
  have tb : ∀ k, 16777216 < k → laws_toChain.f k bF bL = some (bF, alarmsOf bL) := fun k hk => laws_toChain_eq bF bL (by omega) k (by omega)
  have eb : ∀ k, 16777216 < k → laws_eqChain.f k bF (alarmsOf bL) bF (alarmsOf bL) = some true := fun k hk => laws_eqChain_refl _ _ qb k (by omega)
  have sF : ∀ k, 16777216 < k → spec_SameChain.f k aF (alarmsOf aL) bF (alarmsOf bL) = some (sameChain aF (alarmsOf aL) bF (alarmsOf bL)) := fun k hk => spec_SameChain_eq _ _ _ _ qa k (by omega)
  have iF : ∀ k, 16777216 < k → impl_SameChain.f k aF (alarmsOf aL) bF (alarmsOf bL) = some (sameChain aF (alarmsOf aL) bF (alarmsOf bL)) := fun k hk => impl_SameChain_eq _ _ _ _ qa k (by omega)
  simp only [sF, iF, ta, tb, ea, eb, hm, hm1, hm2, hm11, Option.bind_some, bne_self_eq_false, beq_self_eq_true, if_true, Bool.false_eq_true, if_false, Bool.not_true, Bool.not_false]

end Go.Proofs.Ytglefglknlcojab.Pure
