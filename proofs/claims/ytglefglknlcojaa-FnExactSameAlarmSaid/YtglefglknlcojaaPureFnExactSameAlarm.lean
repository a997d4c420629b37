/- The program's SameAlarm returns what the reference's SameAlarm returns, for all arguments, and leaves them alone; no conditions. -/
import Derived.Test.YtglefglknlcojaaPFnExactSameAlarmx4
import Derived.Test.YtglefglknlcojaaM0
import Derived.Test.YtglefglknlcojaaM1
set_option linter.unusedVariables false
set_option linter.unusedSimpArgs false
namespace Go.Proofs.Ytglefglknlcojaa.Pure
open Go.RowKit Go.Proofs.Ytglefglknlcojaa.PFnExactSameAlarm Go.Proofs.YtglefglknlcojaaW.PrintWords Go.Proofs.YtglefglknlcojaaW.PrintLast Go.Proofs.Ytglefglknlcojaa.M0 Go.Proofs.Ytglefglknlcojaa.M1

/-! ### LabS -/
def labOf (x : S80) : S81 := ⟨x.f0, x.f1⟩
def labsOf (l : List S80) : List S81 := l.map labOf
def szLab (x : S80) : Nat := x.f0.size + x.f1.size
def szL (l : List S80) : Nat := l.length + (l.map szLab).sum
/-- Sizes that Go knows. -/
def WfL (l : List S80) : Prop := l.length ≤ 9223372036854775807 ∧ ∀ x ∈ l, x.f0.size ≤ 9223372036854775807 ∧ x.f1.size ≤ 9223372036854775807
theorem labsOf_length (l : List S80) : (labsOf l).length = l.length := by simp [labsOf]
theorem len_le_szL (l : List S80) : l.length ≤ szL l := by unfold szL; omega
theorem sum_mem {α : Type} (f : α → Nat) : ∀ (l : List α) (x : α), x ∈ l → f x ≤ (l.map f).sum
  | [], x, h => by simp at h
  | a :: l, x, h => by
    rcases List.mem_cons.1 h with rfl | h
    · simp
    · have := sum_mem f l x h
      simp only [List.map_cons, List.sum_cons]
      omega
theorem laws_szLabel_eq (a b : ByteArray) (ha : a.size ≤ 9223372036854775807) (hb : b.size ≤ 9223372036854775807) (left : Int) (h0 : 0 ≤ left) (h1 : left ≤ 1048576) : laws_szLabel.f a b left = some (left' (a.size + b.size) left) := by
  unfold laws_szLabel.f
  rw [← left_add _ _ _ h0, left_of_wrap ha h0 h1 (fun t => if (wrap64 (t - (b.size : Int))) < 0 then (some (-1)) else (some (wrap64 (t - (b.size : Int)))))]
  by_cases hz : left' a.size left < 0
  · rw [if_pos hz, if_pos hz]
  · rw [if_neg hz, if_neg hz]
    have hle := left_ge h0 hz
    have e : left' a.size left = left - a.size := by unfold left'; rw [if_pos hle]
    rw [left_of_wrap hb (by omega) (by omega) (fun t => some t)]
    by_cases hy : left' b.size (left' a.size left) < 0
    · rw [if_pos hy]
      rw [left_neg_one (by omega) hy]
    · rw [if_neg hy]
theorem rdML_mem (l : List S80) (i : Int) (h0 : 0 ≤ i) (h1 : i < (l.length : Int)) : rd_T80 l i ∈ l := by
  unfold rd_T80
  rw [List.getD_eq_getElem?_getD, List.getElem?_eq_getElem (by omega)]
  exact List.getElem_mem (by omega)
theorem laws_szLabelS_eq (l : List S80) (hl : WfL l) (left : Int) (h0 : 0 ≤ left) (h1 : left ≤ 1048576) (k : Nat) (hk : 1048577 < k) :
    laws_szLabelS.f k l left = some (left' (szL l) left) := by
  unfold laws_szLabelS.f szL
  rw [left_of_wrap (n := l.length) hl.1 h0 h1 (fun t => laws_szLabelS.l0 k l t 0), ← left_add _ _ _ h0]
  by_cases hz : left' l.length left < 0
  · rw [if_pos hz, if_pos hz]
  · rw [if_neg hz, if_neg hz]
    have hle := left_ge h0 hz
    rw [budget_loop l (by omega) szLab z80 0 (fun k t i => laws_szLabelS.l0 k l t i) ?_ ?_ l.length k 0 _ (by omega) (by omega) (by omega) (left_le h1) (by omega)]
    · simp
    · intro k i left _ hi hi' hl0 hl1
      have hm := hl.2 _ (rdML_mem l i hi hi')
      simp only [laws_szLabelS.l0]
      rw [if_pos hi', if_pos hi, laws_szLabel_eq _ _ hm.1 hm.2 _ hl0 hl1]
      rfl
    · intro k left _
      simp only [laws_szLabelS.l0]
      rw [if_neg (by omega)]
theorem laws_toLabelS_eq (l : List S80) (hl : l.length ≤ 1048576) (k : Nat) (hk : 1048577 < k) : laws_toLabelS.f k l = some (labsOf l) := by
  unfold laws_toLabelS.f
  rw [if_pos (by omega), if_pos (by omega)]
  have h := fill_loop l (by omega) labOf z80 0 (fun k out i => laws_toLabelS.l0 k l out i) ?_ ?_ k z81 (by omega)
  · exact h
  · intro k i out _ hi hi' ho
    simp only [laws_toLabelS.l0]
    rw [if_pos hi', if_pos hi]
    simp only [laws_toLabel.f, Option.bind_some]
    rw [if_pos (by omega)]
    rfl
  · intro k out _
    simp only [laws_toLabelS.l0]
    rw [if_neg (by omega)]
theorem sized_labs (l : List S80) (h : szL l ≤ 1048576) : ∀ x ∈ labsOf l, x.f0.size ≤ 1048576 ∧ x.f1.size ≤ 1048576 := by
  intro x hx
  obtain ⟨y, hy, rfl⟩ := List.mem_map.1 hx
  have := sum_mem szLab l y hy
  have h1 : y.f0.size + y.f1.size ≤ (l.map szLab).sum := this
  unfold szL at h
  show y.f0.size ≤ _ ∧ y.f1.size ≤ _
  omega

/-! ### EqL -/
theorem laws_eqLabelS_refl (l : List S81) (hl : l.length ≤ 140737488351232) (k : Nat) (hk : l.length < k) : laws_eqLabelS.f k l l = some true := by
  unfold laws_eqLabelS.f
  rw [if_pos rfl]
  rw [all_loop (n := l.length) (by omega) 0 (fun _ => true) (fun k i => laws_eqLabelS.l0 k l l i) (some true) ?_ ?_ l.length k 0 (by omega) (by omega) (by omega) (by omega)]
  · rw [allFrom_true (fun _ => rfl)]; rfl
  · intro k i _ h0 h1
    simp only [laws_eqLabelS.l0]
    rw [if_pos h1, if_pos h0, if_pos h1]
    simp only [laws_eqLabel.f, Option.bind_some, if_true]
  · intro k _
    simp only [laws_eqLabelS.l0]
    rw [if_neg (by omega)]

/-! ### AlarmS -/
def WfA (l : List S80) (note : ByteArray) : Prop := WfL l ∧ note.size ≤ 9223372036854775807
theorem laws_szAlarm_eq (l : List S80) (s e : Int) (note : ByteArray) (h : WfL l) (hn : note.size ≤ 9223372036854775807) (left : Int) (h0 : 0 ≤ left) (h1 : left ≤ 1048576) (k : Nat) (hk : 1048577 < k) :
    laws_szAlarm.f k l s e note left = some (left' (szL l + note.size) left) := by
  unfold laws_szAlarm.f
  rw [laws_szLabelS_eq l h left h0 h1 k hk, ← left_add _ _ _ h0]
  simp only [Option.bind_some]
  by_cases hz : left' (szL l) left < 0
  · rw [if_pos hz, if_pos hz]
  · rw [if_neg hz, if_neg hz]
    have hle := left_le (t := szL l) h1
    rw [left_of_wrap hn (by omega) hle (fun t => some t)]
    by_cases hy : left' note.size (left' (szL l) left) < 0
    · rw [if_pos hy, left_neg_one (by omega) hy]
    · rw [if_neg hy]
theorem laws_toAlarm_eq (l : List S80) (s e : Int) (note : ByteArray) (hl : l.length ≤ 1048576) (k : Nat) (hk : 1048577 < k) : laws_toAlarm.f k l s e note = some (labsOf l, s, e, note) := by
  unfold laws_toAlarm.f
  rw [laws_toLabelS_eq l hl k hk]
  rfl
theorem laws_eqAlarm_refl (l : List S81) (s e : Int) (note : ByteArray) (hl : l.length ≤ 140737488351232) (k : Nat) (hk : l.length < k) : laws_eqAlarm.f k l s e note l s e note = some true := by
  unfold laws_eqAlarm.f
  rw [laws_eqLabelS_refl l hl k hk]
  simp

/-! ### SameSet -/
def labEq (x y : S81) : Bool := (x.f0.toList == y.f0.toList) && (x.f1.toList == y.f1.toList)
def sameB (a b : List S81) (i : Int) : Bool := labEq (rd_T81 a i) (rd_T81 b i)
def sameSet (a b : List S81) : Bool := decide (a.length = b.length) && allFrom (sameB a b) a.length 0
theorem same_round (a b : List S81) (i : Int) (x : Option Bool) :
    (if (!((((rd_T81 a i).f0).toList) == (((rd_T81 b i).f0).toList)) || (!((((rd_T81 a i).f1).toList) == (((rd_T81 b i).f1).toList)))) = true then (some false) else x) = if sameB a b i = true then x else some false := by
  unfold sameB labEq
  cases ((rd_T81 a i).f0.toList == (rd_T81 b i).f0.toList) <;> cases ((rd_T81 a i).f1.toList == (rd_T81 b i).f1.toList) <;> simp
theorem spec_SameSet_eq (a b : List S81) (ha : a.length ≤ 140737488351232) (k : Nat) (hk : a.length < k) : spec_SameSet.f k a b = some (sameSet a b) := by
  unfold spec_SameSet.f sameSet
  by_cases h : a.length = b.length
  · rw [if_pos (by omega), decide_eq_true h, Bool.true_and]
    rw [all_loop (n := a.length) ha 0 (sameB a b) (fun k i => spec_SameSet.l0 k a b i) (some true) ?_ ?_ a.length k 0 (by omega) (by omega) (by omega) (by omega), bool_of_if]
    · intro k i _ h0 h1
      simp only [spec_SameSet.l0]
      rw [if_pos h1, if_pos h0, if_pos (by omega), same_round]
    · intro k _
      simp only [spec_SameSet.l0]
      rw [if_neg (by omega)]
  · rw [if_neg (by omega), decide_eq_false h]; rfl
theorem impl_SameSet_eq (a b : List S81) (ha : a.length ≤ 140737488351232) (k : Nat) (hk : a.length < k) : impl_SameSet.f k a b = some (sameSet a b) := by
  unfold impl_SameSet.f sameSet
  by_cases h : a.length = b.length
  · rw [if_pos (by omega), decide_eq_true h, Bool.true_and]
    rw [all_loop (n := a.length) ha 0 (sameB a b) (fun k i => impl_SameSet.l0 k a b a.length i) (some true) ?_ ?_ a.length k 0 (by omega) (by omega) (by omega) (by omega), bool_of_if]
    · intro k i _ h0 h1
      simp only [impl_SameSet.l0]
      rw [if_pos h1, if_pos h0, if_pos h1, if_pos (by omega), same_round]
    · intro k _
      simp only [impl_SameSet.l0]
      rw [if_neg (by omega)]
  · rw [if_neg (by omega), decide_eq_false h]; rfl

/-! ### SameAlarm -/
def sameAlarm (l : List S81) (s e : Int) (n : ByteArray) (l' : List S81) (s' e' : Int) (n' : ByteArray) : Bool := sameSet l l' && (decide (s = s') && (decide (e = e') && (n.toList == n'.toList)))
theorem spec_SameAlarm_eq (l : List S81) (s e : Int) (n : ByteArray) (l' : List S81) (s' e' : Int) (n' : ByteArray) (hl : l.length ≤ 140737488351232) (k : Nat) (hk : l.length < k) : spec_SameAlarm.f k l s e n l' s' e' n' = some (sameAlarm l s e n l' s' e' n') := by
  unfold spec_SameAlarm.f sameAlarm
  rw [spec_SameSet_eq l l' hl k hk]
  cases sameSet l l' <;> by_cases h1 : s = s' <;> by_cases h2 : e = e' <;> simp [h1, h2]
theorem impl_SameAlarm_eq (l : List S81) (s e : Int) (n : ByteArray) (l' : List S81) (s' e' : Int) (n' : ByteArray) (hl : l.length ≤ 140737488351232) (k : Nat) (hk : l.length < k) : impl_SameAlarm.f k l s e n l' s' e' n' = some (sameAlarm l s e n l' s' e' n') := by
  unfold impl_SameAlarm.f sameAlarm
  rw [impl_SameSet_eq l l' hl k hk]
  cases sameSet l l' <;> by_cases h1 : s = s' <;> by_cases h2 : e = e' <;> simp [h1, h2]

theorem FnExactSameAlarm (aL : List S80) (aS aE : Int) (aN : ByteArray) (bL : List S80) (bS bE : Int) (bN : ByteArray) (ha : (aL.length ≤ 9223372036854775807 ∧ ∀ b ∈ aL, b.f0.size ≤ 9223372036854775807 ∧ b.f1.size ≤ 9223372036854775807) ∧ (Lit.int .i64 aS).wf = true ∧ (Lit.int .i64 aE).wf = true ∧ aN.size ≤ 9223372036854775807) (hb : (bL.length ≤ 9223372036854775807 ∧ ∀ b ∈ bL, b.f0.size ≤ 9223372036854775807 ∧ b.f1.size ≤ 9223372036854775807) ∧ (Lit.int .i64 bS).wf = true ∧ (Lit.int .i64 bE).wf = true ∧ bN.size ≤ 9223372036854775807) : ∃ k, laws_FnExactSameAlarm.f k aL aS aE aN bL bS bE bN = some true := by
  obtain ⟨m, hm⟩ : ∃ m : Nat, 16777216 < m := ⟨16777217, by omega⟩
  have hm1 : 16777216 < m + 1 := by omega
  have hm2 : 16777216 < m + 2 := by omega
  have hm11 : 16777216 < m + 1 + 1 := by omega
  refine ⟨m + 2, ?_⟩
  unfold laws_FnExactSameAlarm.f
  obtain ⟨left1, hleft1⟩ : ∃ x, x = left' ((szL aL + aN.size)) 1048576 := ⟨_, rfl⟩
  rw [laws_szAlarm_eq aL aS aE aN ha.1 ha.2.2.2 _ (by omega) (by omega) _ (by omega), ← hleft1]
  simp only [Option.bind_some]
  by_cases hz1 : left1 < 0
  · rw [if_pos hz1]
  rw [if_neg hz1]
  have hb1 : (((szL aL + aN.size) : Nat) : Int) ≤ 1048576 := left_ge (by omega) (by rw [← hleft1]; exact hz1)
  have hc1 : left1 ≤ 1048576 := by rw [hleft1]; exact left_le (by omega)
  obtain ⟨left2, hleft2⟩ : ∃ x, x = left' ((szL bL + bN.size)) left1 := ⟨_, rfl⟩
  rw [laws_szAlarm_eq bL bS bE bN hb.1 hb.2.2.2 _ (by omega) (by omega) _ (by omega), ← hleft2]
  simp only [Option.bind_some]
  by_cases hz2 : left2 < 0
  · rw [if_pos hz2]
  rw [if_neg hz2]
  have hb2 : (((szL bL + bN.size) : Nat) : Int) ≤ left1 := left_ge (by omega) (by rw [← hleft2]; exact hz2)
  have hc2 : left2 ≤ 1048576 := by rw [hleft2]; exact left_le (by omega)
  clear hleft1
  clear hleft2
  have la : aL.length ≤ 1048576 := by have := len_le_szL aL; omega
  have qa : (labsOf aL).length ≤ 1048576 := by rw [labsOf_length]; exact la
  have za := sized_labs aL (by omega)
  have na : aN.size ≤ 1048576 := by omega
  have ta : ∀ k, 16777216 < k → laws_toAlarm.f k aL aS aE aN = some (labsOf aL, aS, aE, aN) := fun k hk => laws_toAlarm_eq aL aS aE aN la k (by omega)
  have ea : ∀ k, 16777216 < k → laws_eqAlarm.f k (labsOf aL) aS aE aN (labsOf aL) aS aE aN = some true := fun k hk => laws_eqAlarm_refl _ _ _ _ (by omega) k (by omega)
  have lb : bL.length ≤ 1048576 := by have := len_le_szL bL; omega
  have qb : (labsOf bL).length ≤ 1048576 := by rw [labsOf_length]; exact lb
  have zb := sized_labs bL (by omega)
  have nb : bN.size ≤ 1048576 := by omega
  have tb : ∀ k, 16777216 < k → laws_toAlarm.f k bL bS bE bN = some (labsOf bL, bS, bE, bN) := fun k hk => laws_toAlarm_eq bL bS bE bN lb k (by omega)
  have eb : ∀ k, 16777216 < k → laws_eqAlarm.f k (labsOf bL) bS bE bN (labsOf bL) bS bE bN = some true := fun k hk => laws_eqAlarm_refl _ _ _ _ (by omega) k (by omega)
  have sF : ∀ k, 16777216 < k → spec_SameAlarm.f k (labsOf aL) aS aE aN (labsOf bL) bS bE bN = some (sameAlarm (labsOf aL) aS aE aN (labsOf bL) bS bE bN) := fun k hk => spec_SameAlarm_eq _ _ _ _ _ _ _ _ (by omega) k (by omega)
  have iF : ∀ k, 16777216 < k → impl_SameAlarm.f k (labsOf aL) aS aE aN (labsOf bL) bS bE bN = some (sameAlarm (labsOf aL) aS aE aN (labsOf bL) bS bE bN) := fun k hk => impl_SameAlarm_eq _ _ _ _ _ _ _ _ (by omega) k (by omega)
  simp only [sF, iF, ta, tb, ea, eb, hm, hm1, hm2, hm11, Option.bind_some, bne_self_eq_false, beq_self_eq_true, if_true, Bool.false_eq_true, if_false, Bool.not_true, Bool.not_false]

end Go.Proofs.Ytglefglknlcojaa.Pure
