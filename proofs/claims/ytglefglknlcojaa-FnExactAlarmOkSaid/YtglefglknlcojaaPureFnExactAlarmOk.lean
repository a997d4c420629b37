/- The program's AlarmOk returns what the reference's AlarmOk returns, for all arguments, and leaves them alone; no conditions. -/
import Derived.Test.YtglefglknlcojaaPFnExactAlarmOkx6
import Derived.Test.YtglefglknlcojaaM0
import Derived.Test.YtglefglknlcojaaM1
set_option linter.unusedVariables false
set_option linter.unusedSimpArgs false
namespace Go.Proofs.Ytglefglknlcojaa.Pure
open Go.RowKit Go.Proofs.Ytglefglknlcojaa.PFnExactAlarmOk Go.Proofs.YtglefglknlcojaaW.PrintWords Go.Proofs.YtglefglknlcojaaW.PrintLast Go.Proofs.Ytglefglknlcojaa.M0 Go.Proofs.Ytglefglknlcojaa.M1

/-! ### LabS -/
def labOf (x : S80) : S81 := ⟨x.f0, x.f1⟩
def labsOf (l : List S80) : List S81 := l.map labOf
def szLab (x : S80) : Nat := x.f0.size + x.f1.size
def szL (l : List S80) : Nat := l.length + (l.map szLab).sum
/-- Sizes that Go knows. -/
def WfL (l : List S80) : Prop := l.length ≤ 9223372036854775807 ∧ ∀ x ∈ l, x.f0.size ≤ 9223372036854775807 ∧ x.f1.size ≤ 9223372036854775807
theorem labsOf_length (l : List S80) : (labsOf l).length = l.length := by simp [labsOf]
theorem len_le_szL (l : List S80) : l.length ≤ szL l := by unfold szL; omega
theorem sum_mem {α : Type} (f : α → Nat) : ∀ (l : List α) (x : α), x ∈ l → f x ≤ (l.map f).sum
  | [], x, h => by simp at h
  | a :: l, x, h => by
    rcases List.mem_cons.1 h with rfl | h
    · simp
    · have := sum_mem f l x h
      simp only [List.map_cons, List.sum_cons]
      omega
theorem laws_szLabel_eq (a b : ByteArray) (ha : a.size ≤ 9223372036854775807) (hb : b.size ≤ 9223372036854775807) (left : Int) (h0 : 0 ≤ left) (h1 : left ≤ 1048576) : laws_szLabel.f a b left = some (left' (a.size + b.size) left) := by
  unfold laws_szLabel.f
  rw [← left_add _ _ _ h0, left_of_wrap ha h0 h1 (fun t => if (wrap64 (t - (b.size : Int))) < 0 then (some (-1)) else (some (wrap64 (t - (b.size : Int)))))]
  by_cases hz : left' a.size left < 0
  · rw [if_pos hz, if_pos hz]
  · rw [if_neg hz, if_neg hz]
    have hle := left_ge h0 hz
    have e : left' a.size left = left - a.size := by unfold left'; rw [if_pos hle]
    rw [left_of_wrap hb (by omega) (by omega) (fun t => some t)]
    by_cases hy : left' b.size (left' a.size left) < 0
    · rw [if_pos hy]
      rw [left_neg_one (by omega) hy]
    · rw [if_neg hy]
theorem rdML_mem (l : List S80) (i : Int) (h0 : 0 ≤ i) (h1 : i < (l.length : Int)) : rd_T80 l i ∈ l := by
  unfold rd_T80
  rw [List.getD_eq_getElem?_getD, List.getElem?_eq_getElem (by omega)]
  exact List.getElem_mem (by omega)
theorem laws_szLabelS_eq (l : List S80) (hl : WfL l) (left : Int) (h0 : 0 ≤ left) (h1 : left ≤ 1048576) (k : Nat) (hk : 1048577 < k) :
    laws_szLabelS.f k l left = some (left' (szL l) left) := by
  unfold laws_szLabelS.f szL
  rw [left_of_wrap (n := l.length) hl.1 h0 h1 (fun t => laws_szLabelS.l0 k l t 0), ← left_add _ _ _ h0]
  by_cases hz : left' l.length left < 0
  · rw [if_pos hz, if_pos hz]
  · rw [if_neg hz, if_neg hz]
    have hle := left_ge h0 hz
    rw [budget_loop l (by omega) szLab z80 0 (fun k t i => laws_szLabelS.l0 k l t i) ?_ ?_ l.length k 0 _ (by omega) (by omega) (by omega) (left_le h1) (by omega)]
    · simp
    · intro k i left _ hi hi' hl0 hl1
      have hm := hl.2 _ (rdML_mem l i hi hi')
      simp only [laws_szLabelS.l0]
      rw [if_pos hi', if_pos hi, laws_szLabel_eq _ _ hm.1 hm.2 _ hl0 hl1]
      rfl
    · intro k left _
      simp only [laws_szLabelS.l0]
      rw [if_neg (by omega)]
theorem laws_toLabelS_eq (l : List S80) (hl : l.length ≤ 1048576) (k : Nat) (hk : 1048577 < k) : laws_toLabelS.f k l = some (labsOf l) := by
  unfold laws_toLabelS.f
  rw [if_pos (by omega), if_pos (by omega)]
  have h := fill_loop l (by omega) labOf z80 0 (fun k out i => laws_toLabelS.l0 k l out i) ?_ ?_ k z81 (by omega)
  · exact h
  · intro k i out _ hi hi' ho
    simp only [laws_toLabelS.l0]
    rw [if_pos hi', if_pos hi]
    simp only [laws_toLabel.f, Option.bind_some]
    rw [if_pos (by omega)]
    rfl
  · intro k out _
    simp only [laws_toLabelS.l0]
    rw [if_neg (by omega)]
theorem sized_labs (l : List S80) (h : szL l ≤ 1048576) : ∀ x ∈ labsOf l, x.f0.size ≤ 1048576 ∧ x.f1.size ≤ 1048576 := by
  intro x hx
  obtain ⟨y, hy, rfl⟩ := List.mem_map.1 hx
  have := sum_mem szLab l y hy
  have h1 : y.f0.size + y.f1.size ≤ (l.map szLab).sum := this
  unfold szL at h
  show y.f0.size ≤ _ ∧ y.f1.size ≤ _
  omega

/-! ### EqL -/
theorem laws_eqLabelS_refl (l : List S81) (hl : l.length ≤ 140737488351232) (k : Nat) (hk : l.length < k) : laws_eqLabelS.f k l l = some true := by
  unfold laws_eqLabelS.f
  rw [if_pos rfl]
  rw [all_loop (n := l.length) (by omega) 0 (fun _ => true) (fun k i => laws_eqLabelS.l0 k l l i) (some true) ?_ ?_ l.length k 0 (by omega) (by omega) (by omega) (by omega)]
  · rw [allFrom_true (fun _ => rfl)]; rfl
  · intro k i _ h0 h1
    simp only [laws_eqLabelS.l0]
    rw [if_pos h1, if_pos h0, if_pos h1]
    simp only [laws_eqLabel.f, Option.bind_some, if_true]
  · intro k _
    simp only [laws_eqLabelS.l0]
    rw [if_neg (by omega)]

/-! ### AlarmS -/
def WfA (l : List S80) (note : ByteArray) : Prop := WfL l ∧ note.size ≤ 9223372036854775807
theorem laws_szAlarm_eq (l : List S80) (s e : Int) (note : ByteArray) (h : WfL l) (hn : note.size ≤ 9223372036854775807) (left : Int) (h0 : 0 ≤ left) (h1 : left ≤ 1048576) (k : Nat) (hk : 1048577 < k) :
    laws_szAlarm.f k l s e note left = some (left' (szL l + note.size) left) := by
  unfold laws_szAlarm.f
  rw [laws_szLabelS_eq l h left h0 h1 k hk, ← left_add _ _ _ h0]
  simp only [Option.bind_some]
  by_cases hz : left' (szL l) left < 0
  · rw [if_pos hz, if_pos hz]
  · rw [if_neg hz, if_neg hz]
    have hle := left_le (t := szL l) h1
    rw [left_of_wrap hn (by omega) hle (fun t => some t)]
    by_cases hy : left' note.size (left' (szL l) left) < 0
    · rw [if_pos hy, left_neg_one (by omega) hy]
    · rw [if_neg hy]
theorem laws_toAlarm_eq (l : List S80) (s e : Int) (note : ByteArray) (hl : l.length ≤ 1048576) (k : Nat) (hk : 1048577 < k) : laws_toAlarm.f k l s e note = some (labsOf l, s, e, note) := by
  unfold laws_toAlarm.f
  rw [laws_toLabelS_eq l hl k hk]
  rfl
theorem laws_eqAlarm_refl (l : List S81) (s e : Int) (note : ByteArray) (hl : l.length ≤ 140737488351232) (k : Nat) (hk : l.length < k) : laws_eqAlarm.f k l s e note l s e note = some true := by
  unfold laws_eqAlarm.f
  rw [laws_eqLabelS_refl l hl k hk]
  simp

/-! ### NameOk -/
def nameB (s : ByteArray) (i : Int) : Bool := !(decide (bt s i < 97) || decide (bt s i > 122))
def inB (x a b : Int) : Bool := decide (a ≤ x) && decide (x ≤ b)
def nameOk (s : ByteArray) : Bool := allFrom (nameB s) s.size 0 && inB s.size 1 8
theorem spec_l1In_eq (x a b : Int) : spec_l1In.f x a b = some (inB x a b) := by
  unfold spec_l1In.f inB
  by_cases h : x ≥ a
  · rw [if_pos h, decide_eq_true (show a ≤ x from h)]; simp
  · rw [if_neg h, decide_eq_false (show ¬ a ≤ x from h)]; simp
theorem impl_in_eq (x a b : Int) : impl_in.f x a b = some (inB x a b) := by
  unfold impl_in.f inB
  by_cases h : x ≥ a
  · rw [if_pos h, decide_eq_true (show a ≤ x from h)]; simp
  · rw [if_neg h, decide_eq_false (show ¬ a ≤ x from h)]; simp
theorem name_round (s : ByteArray) (i : Int) (x : Option Bool) :
    (if (bt s i) < 97 then (some false) else (if (bt s i) > 122 then (some false) else x)) = if nameB s i = true then x else some false := by
  by_cases h1 : bt s i < 97
  · simp [nameB, h1]
  by_cases h2 : bt s i > 122
  · simp [nameB, h2]
  rw [if_neg h1, if_neg h2, if_pos (by simp [nameB, h1, h2])]
theorem spec_NameOk_eq (s : ByteArray) (hn : s.size ≤ 140737488351232) (k : Nat) (hk : s.size < k) : spec_NameOk.f k s = some (nameOk s) := by
  unfold spec_NameOk.f nameOk
  rw [all_loop hn 0 (nameB s) (fun k i => spec_NameOk.l0 k s i) (some (inB s.size 1 8)) ?_ ?_ s.size k 0 (by omega) (by omega) (by omega) (by omega)]
  · by_cases h : allFrom (nameB s) s.size 0 = true
    · simp [h]
    · simp [h]
  · intro k i _ h0 h1
    simp only [spec_NameOk.l0]
    rw [if_pos h1, if_pos h0, name_round]
  · intro k _
    simp only [spec_NameOk.l0]
    rw [if_neg (by omega), spec_l1In_eq]; rfl
theorem impl_NameOk_eq (s : ByteArray) (hn : s.size ≤ 140737488351232) (k : Nat) (hk : s.size < k) : impl_NameOk.f k s = some (nameOk s) := by
  unfold impl_NameOk.f nameOk
  rw [impl_in_eq]
  simp only [Option.bind_some]
  by_cases h12 : inB s.size 1 8 = true
  · rw [if_pos h12, h12]
    rw [all_loop hn 0 (nameB s) (fun k i => impl_NameOk.l0 k s i) (some true) ?_ ?_ s.size k 0 (by omega) (by omega) (by omega) (by omega)]
    · by_cases h : allFrom (nameB s) s.size 0 = true
      · simp [h]
      · simp [h]
    · intro k i _ h0 h1
      simp only [impl_NameOk.l0]
      rw [if_pos h1, if_pos h0, name_round]
    · intro k _
      simp only [impl_NameOk.l0]
      rw [if_neg (by omega)]
  · rw [if_neg h12]; simp [h12]

/-! ### PlainOk -/
def plainB (s : ByteArray) (i : Int) : Bool := !(decide (bt s i < 32) || decide (bt s i > 126) || decide (bt s i = 34) || decide (bt s i = 92))
def plainOk (s : ByteArray) : Bool := allFrom (plainB s) s.size 0 && decide ((s.size : Int) ≤ 12)
theorem plain_round (s : ByteArray) (i : Int) (x : Option Bool) :
    (if (bt s i) < 32 then (some false) else (if (bt s i) > 126 then (some false) else (if (bt s i) = 34 then (some false) else (if (bt s i) = 92 then (some false) else x)))) = if plainB s i = true then x else some false := by
  by_cases h1 : bt s i < 32
  · simp [plainB, h1]
  by_cases h2 : bt s i > 126
  · simp [plainB, h2]
  by_cases h3 : bt s i = 34
  · simp [plainB, h3]
  by_cases h4 : bt s i = 92
  · simp [plainB, h4]
  rw [if_neg h1, if_neg h2, if_neg h3, if_neg h4, if_pos (by simp [plainB, h1, h2, h3, h4])]
theorem spec_PlainOk_eq (s : ByteArray) (hn : s.size ≤ 140737488351232) (k : Nat) (hk : s.size < k) : spec_PlainOk.f k s = some (plainOk s) := by
  unfold spec_PlainOk.f plainOk
  rw [all_loop hn 0 (plainB s) (fun k i => spec_PlainOk.l0 k s i) (some (decide ((s.size : Int) ≤ 12))) ?_ ?_ s.size k 0 (by omega) (by omega) (by omega) (by omega)]
  · by_cases h : allFrom (plainB s) s.size 0 = true
    · simp [h]
    · simp [h]
  · intro k i _ h0 h1
    simp only [spec_PlainOk.l0]
    rw [if_pos h1, if_pos h0, plain_round]
  · intro k _
    simp only [spec_PlainOk.l0]
    rw [if_neg (by omega)]
theorem impl_PlainOk_eq (s : ByteArray) (hn : s.size ≤ 140737488351232) (k : Nat) (hk : s.size < k) : impl_PlainOk.f k s = some (plainOk s) := by
  unfold impl_PlainOk.f plainOk
  by_cases h12 : (s.size : Int) > 12
  · rw [if_pos h12, decide_eq_false (by omega)]; simp
  · rw [if_neg h12, decide_eq_true (by omega)]
    rw [all_loop hn 0 (plainB s) (fun k i => impl_PlainOk.l0 k s i) (some true) ?_ ?_ s.size k 0 (by omega) (by omega) (by omega) (by omega)]
    · by_cases h : allFrom (plainB s) s.size 0 = true
      · simp [h]
      · simp [h]
    · intro k i _ h0 h1
      simp only [impl_PlainOk.l0]
      rw [if_pos h1, if_pos h0, plain_round]
    · intro k _
      simp only [impl_PlainOk.l0]
      rw [if_neg (by omega)]

/-! ### LabelOk -/
def labelOk (a b : ByteArray) : Bool := nameOk a && plainOk b
theorem spec_LabelOk_eq (a b : ByteArray) (ha : a.size ≤ 140737488351232) (hb : b.size ≤ 140737488351232) (k : Nat) (hk : a.size < k) (hk' : b.size < k) : spec_LabelOk.f k a b = some (labelOk a b) := by
  unfold spec_LabelOk.f labelOk
  rw [spec_NameOk_eq a ha k hk, spec_PlainOk_eq b hb k hk']
  cases nameOk a <;> simp
theorem impl_LabelOk_eq (a b : ByteArray) (ha : a.size ≤ 140737488351232) (hb : b.size ≤ 140737488351232) (k : Nat) (hk : a.size < k) (hk' : b.size < k) : impl_LabelOk.f k a b = some (labelOk a b) := by
  unfold impl_LabelOk.f labelOk
  rw [impl_NameOk_eq a ha k hk, impl_PlainOk_eq b hb k hk']
  cases nameOk a <;> simp

/-! ### SetOk -/
/-- Each label's sizes. -/
def SizedL (M : Nat) (l : List S81) : Prop := ∀ x ∈ l, x.f0.size ≤ M ∧ x.f1.size ≤ M
theorem rd_mem (l : List S81) (i : Int) (h0 : 0 ≤ i) (h1 : i < (l.length : Int)) : rd_T81 l i ∈ l := by
  unfold rd_T81
  rw [List.getD_eq_getElem?_getD, List.getElem?_eq_getElem (by omega)]
  exact List.getElem_mem (by omega)
def setB (l : List S81) (i : Int) : Bool := labelOk (rd_T81 l i).f0 (rd_T81 l i).f1 && (decide (i = 0) || Op.bytesLess (rd_T81 l (i - 1)).f0.toList (rd_T81 l i).f0.toList)
def setOk (l : List S81) : Bool := allFrom (setB l) l.length 0 && decide (l.length ≤ 4)
theorem spec_SetOk_eq (l : List S81) (hl : l.length ≤ 1048576) (M : Nat) (hM : M ≤ 1048576) (hs : SizedL M l) (k : Nat) (hk : l.length + M + 1 < k) : spec_SetOk.f k l = some (setOk l) := by
  unfold spec_SetOk.f setOk
  rw [all_loop (n := l.length) (by omega) (M + 1) (setB l) (fun k i => spec_SetOk.l0 k l i) (some (decide ((l.length : Int) ≤ 4))) ?_ ?_ l.length k 0 (by omega) (by omega) (by omega) (by omega)]
  · have e : decide ((l.length : Int) ≤ 4) = decide (l.length ≤ 4) := by rw [decide_eq_decide]; omega
    rw [e]
    cases allFrom (setB l) l.length 0 <;> simp
  · intro k i hk h0 h1
    have hm := hs _ (rd_mem l i h0 h1)
    simp only [spec_SetOk.l0]
    rw [if_pos h1, if_pos h0, spec_LabelOk_eq _ _ (by omega) (by omega) _ (by omega) (by omega)]
    simp only [Option.bind_some]
    by_cases hL : labelOk (rd_T81 l i).f0 (rd_T81 l i).f1 = true
    · rw [if_pos hL]
      by_cases hz : i = 0
      · have e : setB l i = true := by unfold setB; rw [hL, decide_eq_true hz]; rfl
        rw [if_neg (by omega), if_pos e]
      · have e : setB l i = Op.bytesLess (rd_T81 l (i - 1)).f0.toList (rd_T81 l i).f0.toList := by simp [setB, hL, hz]
        rw [if_pos (by omega), w64 (x := i - 1) (by omega) (by omega), if_pos (by omega), if_pos (by omega), e]
        simp only [spec_Less.f, Option.bind_some]
    · have e : setB l i = false := by simp [setB, hL]
      rw [if_neg hL, if_neg (by simp [e])]
  · intro k _
    simp only [spec_SetOk.l0]
    rw [if_neg (by omega)]
theorem impl_SetOk_eq (l : List S81) (hl : l.length ≤ 1048576) (M : Nat) (hM : M ≤ 1048576) (hs : SizedL M l) (k : Nat) (hk : l.length + M + 1 < k) : impl_SetOk.f k l = some (setOk l) := by
  unfold impl_SetOk.f setOk
  have key := all_loop (n := l.length) (by omega) (M + 1) (fun i => decide (i < 4) && setB l i) (fun k i => impl_SetOk.l0 k l l l.length i) (some true) ?_ ?_ l.length k 0 (by omega) (by omega) (by omega) (by omega)
  · rw [key, bool_of_if]
    congr 1
    by_cases h4 : l.length ≤ 4
    · rw [decide_eq_true h4, Bool.and_true]
      exact allFrom_congr _ _ (fun j h0 h1 => by rw [decide_eq_true (by omega)]; rfl)
    · rw [decide_eq_false h4, Bool.and_false, Bool.eq_false_iff]
      intro h
      have := (allFrom_iff _ _).mp h 4 (by omega) (by omega)
      simp at this
  · intro k i hk h0 h1
    have hm := hs _ (rd_mem l i h0 h1)
    simp only [impl_SetOk.l0]
    rw [if_pos h1, if_pos h0, if_pos h1]
    by_cases h4 : i ≥ 4
    · rw [if_pos h4, decide_eq_false (by omega)]; simp
    · rw [if_neg h4, decide_eq_true (show i < 4 by omega), impl_LabelOk_eq _ _ (by omega) (by omega) _ (by omega) (by omega)]
      simp only [Option.bind_some, Bool.true_and]
      by_cases hL : labelOk (rd_T81 l i).f0 (rd_T81 l i).f1 = true
      · rw [if_pos hL]
        by_cases hz : i = 0
        · have e : setB l i = true := by unfold setB; rw [hL, decide_eq_true hz]; rfl
          rw [if_neg (by omega), if_pos e]
        · have e : setB l i = Op.bytesLess (rd_T81 l (i - 1)).f0.toList (rd_T81 l i).f0.toList := by simp [setB, hL, hz]
          rw [if_pos (by omega), w64 (x := i - 1) (by omega) (by omega), if_pos (by omega), if_pos (by omega), e]
      · have e : setB l i = false := by simp [setB, hL]
        rw [if_neg hL, if_neg (by simp [e])]
  · intro k _
    simp only [impl_SetOk.l0]
    rw [if_neg (by omega)]

/-! ### AlarmOk -/
def alarmOk (l : List S81) (s e : Int) (note : ByteArray) : Bool := decide ((l.length : Int) > 0) && (setOk l && (inB s 0 99999 && (inB e s 99999 && plainOk note)))
theorem spec_AlarmOk_eq (l : List S81) (s e : Int) (note : ByteArray) (hl : l.length ≤ 1048576) (M : Nat) (hM : M ≤ 1048576) (hs : SizedL M l) (hn : note.size ≤ 1048576) (k : Nat) (hk : 4194304 < k) : spec_AlarmOk.f k l s e note = some (alarmOk l s e note) := by
  unfold spec_AlarmOk.f alarmOk
  rw [spec_SetOk_eq l hl M hM hs k (by omega), spec_l1In_eq, spec_l1In_eq, spec_PlainOk_eq note (by omega) k (by omega)]
  cases setOk l <;> cases inB s 0 99999 <;> cases inB e s 99999 <;> by_cases h : 0 < l.length <;> simp [h]
theorem impl_AlarmOk_eq (l : List S81) (s e : Int) (note : ByteArray) (hl : l.length ≤ 1048576) (M : Nat) (hM : M ≤ 1048576) (hs : SizedL M l) (hn : note.size ≤ 1048576) (k : Nat) (hk : 4194304 < k) : impl_AlarmOk.f k l s e note = some (alarmOk l s e note) := by
  unfold impl_AlarmOk.f alarmOk
  rw [impl_SetOk_eq l hl M hM hs k (by omega), impl_in_eq, impl_in_eq, impl_PlainOk_eq note (by omega) k (by omega)]
  cases setOk l <;> cases inB s 0 99999 <;> cases inB e s 99999 <;> by_cases h : 0 < l.length <;> simp [h]

theorem FnExactAlarmOk (aL : List S80) (aS aE : Int) (aN : ByteArray) (ha : (aL.length ≤ 9223372036854775807 ∧ ∀ b ∈ aL, b.f0.size ≤ 9223372036854775807 ∧ b.f1.size ≤ 9223372036854775807) ∧ (Lit.int .i64 aS).wf = true ∧ (Lit.int .i64 aE).wf = true ∧ aN.size ≤ 9223372036854775807) : ∃ k, laws_FnExactAlarmOk.f k aL aS aE aN = some true := by
  obtain ⟨m, hm⟩ : ∃ m : Nat, 4194304 < m := ⟨4194305, by omega⟩
  have hm1 : 4194304 < m + 1 := by omega
  have hm2 : 4194304 < m + 2 := by omega
  have hm11 : 4194304 < m + 1 + 1 := by omega
  refine ⟨m + 2, ?_⟩
  unfold laws_FnExactAlarmOk.f
  obtain ⟨left1, hleft1⟩ : ∃ x, x = left' ((szL aL + aN.size)) 1048576 := ⟨_, rfl⟩
  rw [laws_szAlarm_eq aL aS aE aN ha.1 ha.2.2.2 _ (by omega) (by omega) _ (by omega), ← hleft1]
  simp only [Option.bind_some]
  by_cases hz1 : left1 < 0
  · rw [if_pos hz1]
  rw [if_neg hz1]
  have hb1 : (((szL aL + aN.size) : Nat) : Int) ≤ 1048576 := left_ge (by omega) (by rw [← hleft1]; exact hz1)
  have hc1 : left1 ≤ 1048576 := by rw [hleft1]; exact left_le (by omega)
  clear hleft1
  have la : aL.length ≤ 1048576 := by have := len_le_szL aL; omega
  have qa : (labsOf aL).length ≤ 1048576 := by rw [labsOf_length]; exact la
  have za := sized_labs aL (by omega)
  have na : aN.size ≤ 1048576 := by omega
  have ta : ∀ k, 4194304 < k → laws_toAlarm.f k aL aS aE aN = some (labsOf aL, aS, aE, aN) := fun k hk => laws_toAlarm_eq aL aS aE aN la k (by omega)
  have ea : ∀ k, 4194304 < k → laws_eqAlarm.f k (labsOf aL) aS aE aN (labsOf aL) aS aE aN = some true := fun k hk => laws_eqAlarm_refl _ _ _ _ (by omega) k (by omega)
  have sF : ∀ k, 4194304 < k → spec_AlarmOk.f k (labsOf aL) aS aE aN = some (alarmOk (labsOf aL) aS aE aN) := fun k hk => spec_AlarmOk_eq _ _ _ _ (by omega) 1048576 (by omega) za (by omega) k hk
  have iF : ∀ k, 4194304 < k → impl_AlarmOk.f k (labsOf aL) aS aE aN = some (alarmOk (labsOf aL) aS aE aN) := fun k hk => impl_AlarmOk_eq _ _ _ _ (by omega) 1048576 (by omega) za (by omega) k hk
  simp only [sF, iF, ta, ea, hm, hm1, hm2, hm11, Option.bind_some, bne_self_eq_false, beq_self_eq_true, if_true, Bool.false_eq_true, if_false, Bool.not_true, Bool.not_false]

end Go.Proofs.Ytglefglknlcojaa.Pure
