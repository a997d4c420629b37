/- The program's AlarmText returns what the reference's AlarmText returns, for all arguments, and leaves them alone; no conditions. -/
import Derived.Test.YtglefglknlcojadDoorPFnExactAlarmTextx7
import Derived.Test.YtglefglknlcojadDoorM0
import Derived.Test.YtglefglknlcojadDoorM1
import Derived.Test.YtglefglknlcojadDoorM2
import Derived.Test.YtglefglknlcojadDoorM3
import Derived.Test.YtglefglknlcojadDoorM4
import Derived.Test.YtglefglknlcojadDoorM5
set_option linter.unusedVariables false
set_option linter.unusedSimpArgs false
namespace Go.Proofs.YtglefglknlcojadDoor.Pure
open Go.RowKit Go.Proofs.YtglefglknlcojadDoor.PFnExactAlarmText Go.Proofs.YtglefglknlcojadDoorW.PrintWords Go.Proofs.YtglefglknlcojadDoorW.PrintLast Go.Proofs.YtglefglknlcojadDoor.M0 Go.Proofs.YtglefglknlcojadDoor.M1 Go.Proofs.YtglefglknlcojadDoor.M2 Go.Proofs.YtglefglknlcojadDoor.M3 Go.Proofs.YtglefglknlcojadDoor.M4 Go.Proofs.YtglefglknlcojadDoor.M5

/-! ### LabS -/
def labOf (x : S41) : S45 := ⟨x.f0, x.f1⟩
def labsOf (l : List S41) : List S45 := l.map labOf
def szLab (x : S41) : Nat := x.f0.size + x.f1.size
def szL (l : List S41) : Nat := l.length + (l.map szLab).sum
/-- Sizes that Go knows. -/
def WfL (l : List S41) : Prop := l.length ≤ 9223372036854775807 ∧ ∀ x ∈ l, x.f0.size ≤ 9223372036854775807 ∧ x.f1.size ≤ 9223372036854775807
theorem labsOf_length (l : List S41) : (labsOf l).length = l.length := by simp [labsOf]
theorem len_le_szL (l : List S41) : l.length ≤ szL l := by unfold szL; omega
theorem sum_mem {α : Type} (f : α → Nat) : ∀ (l : List α) (x : α), x ∈ l → f x ≤ (l.map f).sum
  | [], x, h => by simp at h
  | a :: l, x, h => by
    rcases List.mem_cons.1 h with rfl | h
    · simp
    · have := sum_mem f l x h
      simp only [List.map_cons, List.sum_cons]
      omega
theorem laws_szLabel_eq (a b : ByteArray) (ha : a.size ≤ 9223372036854775807) (hb : b.size ≤ 9223372036854775807) (left : Int) (h0 : 0 ≤ left) (h1 : left ≤ 1048576) : laws_szLabel.f a b left = some (left' (a.size + b.size) left) := by
  unfold laws_szLabel.f
  rw [← left_add _ _ _ h0, left_of_wrap ha h0 h1 (fun t => if (wrap64 (t - (b.size : Int))) < 0 then (some (-1)) else (some (wrap64 (t - (b.size : Int)))))]
  by_cases hz : left' a.size left < 0
  · rw [if_pos hz, if_pos hz]
  · rw [if_neg hz, if_neg hz]
    have hle := left_ge h0 hz
    have e : left' a.size left = left - a.size := by unfold left'; rw [if_pos hle]
    rw [left_of_wrap hb (by omega) (by omega) (fun t => some t)]
    by_cases hy : left' b.size (left' a.size left) < 0
    · rw [if_pos hy]
      rw [left_neg_one (by omega) hy]
    · rw [if_neg hy]
theorem rdML_mem (l : List S41) (i : Int) (h0 : 0 ≤ i) (h1 : i < (l.length : Int)) : rd_T41 l i ∈ l := by
  unfold rd_T41
  rw [List.getD_eq_getElem?_getD, List.getElem?_eq_getElem (by omega)]
  exact List.getElem_mem (by omega)
theorem laws_szLabelS_eq (l : List S41) (hl : WfL l) (left : Int) (h0 : 0 ≤ left) (h1 : left ≤ 1048576) (k : Nat) (hk : 1048577 < k) :
    laws_szLabelS.f k l left = some (left' (szL l) left) := by
  unfold laws_szLabelS.f szL
  rw [left_of_wrap (n := l.length) hl.1 h0 h1 (fun t => laws_szLabelS.l0 k l t 0), ← left_add _ _ _ h0]
  by_cases hz : left' l.length left < 0
  · rw [if_pos hz, if_pos hz]
  · rw [if_neg hz, if_neg hz]
    have hle := left_ge h0 hz
    rw [budget_loop l (by omega) szLab z41 0 (fun k t i => laws_szLabelS.l0 k l t i) ?_ ?_ l.length k 0 _ (by omega) (by omega) (by omega) (left_le h1) (by omega)]
    · simp
    · intro k i left _ hi hi' hl0 hl1
      have hm := hl.2 _ (rdML_mem l i hi hi')
      simp only [laws_szLabelS.l0]
      rw [if_pos hi', if_pos hi, laws_szLabel_eq _ _ hm.1 hm.2 _ hl0 hl1]
      rfl
    · intro k left _
      simp only [laws_szLabelS.l0]
      rw [if_neg (by omega)]
theorem laws_toLabelS_eq (l : List S41) (hl : l.length ≤ 1048576) (k : Nat) (hk : 1048577 < k) : laws_toLabelS.f k l = some (labsOf l) := by
  unfold laws_toLabelS.f
  rw [if_pos (by omega), if_pos (by omega)]
  have h := fill_loop l (by omega) labOf z41 0 (fun k out i => laws_toLabelS.l0 k l out i) ?_ ?_ k z45 (by omega)
  · exact h
  · intro k i out _ hi hi' ho
    simp only [laws_toLabelS.l0]
    rw [if_pos hi', if_pos hi]
    simp only [laws_toLabel.f, Option.bind_some]
    rw [if_pos (by omega)]
    rfl
  · intro k out _
    simp only [laws_toLabelS.l0]
    rw [if_neg (by omega)]
theorem sized_labs (l : List S41) (h : szL l ≤ 1048576) : ∀ x ∈ labsOf l, x.f0.size ≤ 1048576 ∧ x.f1.size ≤ 1048576 := by
  intro x hx
  obtain ⟨y, hy, rfl⟩ := List.mem_map.1 hx
  have := sum_mem szLab l y hy
  have h1 : y.f0.size + y.f1.size ≤ (l.map szLab).sum := this
  unfold szL at h
  show y.f0.size ≤ _ ∧ y.f1.size ≤ _
  omega

/-! ### EqL -/
theorem laws_eqLabelS_refl (l : List S45) (hl : l.length ≤ 140737488351232) (k : Nat) (hk : l.length < k) : laws_eqLabelS.f k l l = some true := by
  unfold laws_eqLabelS.f
  rw [if_pos rfl]
  rw [all_loop (n := l.length) (by omega) 0 (fun _ => true) (fun k i => laws_eqLabelS.l0 k l l i) (some true) ?_ ?_ l.length k 0 (by omega) (by omega) (by omega) (by omega)]
  · rw [allFrom_true (fun _ => rfl)]; rfl
  · intro k i _ h0 h1
    simp only [laws_eqLabelS.l0]
    rw [if_pos h1, if_pos h0, if_pos h1]
    simp only [laws_eqLabel.f, Option.bind_some, if_true]
  · intro k _
    simp only [laws_eqLabelS.l0]
    rw [if_neg (by omega)]

/-! ### AlarmS -/
def WfA (l : List S41) (note : ByteArray) : Prop := WfL l ∧ note.size ≤ 9223372036854775807
theorem laws_szAlarm_eq (l : List S41) (s e : Int) (note : ByteArray) (h : WfL l) (hn : note.size ≤ 9223372036854775807) (left : Int) (h0 : 0 ≤ left) (h1 : left ≤ 1048576) (k : Nat) (hk : 1048577 < k) :
    laws_szAlarm.f k l s e note left = some (left' (szL l + note.size) left) := by
  unfold laws_szAlarm.f
  rw [laws_szLabelS_eq l h left h0 h1 k hk, ← left_add _ _ _ h0]
  simp only [Option.bind_some]
  by_cases hz : left' (szL l) left < 0
  · rw [if_pos hz, if_pos hz]
  · rw [if_neg hz, if_neg hz]
    have hle := left_le (t := szL l) h1
    rw [left_of_wrap hn (by omega) hle (fun t => some t)]
    by_cases hy : left' note.size (left' (szL l) left) < 0
    · rw [if_pos hy, left_neg_one (by omega) hy]
    · rw [if_neg hy]
theorem laws_toAlarm_eq (l : List S41) (s e : Int) (note : ByteArray) (hl : l.length ≤ 1048576) (k : Nat) (hk : 1048577 < k) : laws_toAlarm.f k l s e note = some (labsOf l, s, e, note) := by
  unfold laws_toAlarm.f
  rw [laws_toLabelS_eq l hl k hk]
  rfl
theorem laws_eqAlarm_refl (l : List S45) (s e : Int) (note : ByteArray) (hl : l.length ≤ 140737488351232) (k : Nat) (hk : l.length < k) : laws_eqAlarm.f k l s e note l s e note = some true := by
  unfold laws_eqAlarm.f
  rw [laws_eqLabelS_refl l hl k hk]
  simp

/-! ### NameOk -/
def nameB (s : ByteArray) (i : Int) : Bool := !(decide (bt s i < 97) || decide (bt s i > 122))
def inB (x a b : Int) : Bool := decide (a ≤ x) && decide (x ≤ b)
def nameOk (s : ByteArray) : Bool := allFrom (nameB s) s.size 0 && inB s.size 1 8
theorem spec_l1In_eq (x a b : Int) : spec_l1In.f x a b = some (inB x a b) := by
  unfold spec_l1In.f inB
  by_cases h : x ≥ a
  · rw [if_pos h, decide_eq_true (show a ≤ x from h)]; simp
  · rw [if_neg h, decide_eq_false (show ¬ a ≤ x from h)]; simp
theorem impl_in_eq (x a b : Int) : impl_in.f x a b = some (inB x a b) := by
  unfold impl_in.f inB
  by_cases h : x ≥ a
  · rw [if_pos h, decide_eq_true (show a ≤ x from h)]; simp
  · rw [if_neg h, decide_eq_false (show ¬ a ≤ x from h)]; simp
theorem name_round (s : ByteArray) (i : Int) (x : Option Bool) :
    (if (bt s i) < 97 then (some false) else (if (bt s i) > 122 then (some false) else x)) = if nameB s i = true then x else some false := by
  by_cases h1 : bt s i < 97
  · simp [nameB, h1]
  by_cases h2 : bt s i > 122
  · simp [nameB, h2]
  rw [if_neg h1, if_neg h2, if_pos (by simp [nameB, h1, h2])]
theorem spec_NameOk_eq (s : ByteArray) (hn : s.size ≤ 140737488351232) (k : Nat) (hk : s.size < k) : spec_NameOk.f k s = some (nameOk s) := by
  unfold spec_NameOk.f nameOk
  rw [all_loop hn 0 (nameB s) (fun k i => spec_NameOk.l0 k s i) (some (inB s.size 1 8)) ?_ ?_ s.size k 0 (by omega) (by omega) (by omega) (by omega)]
  · by_cases h : allFrom (nameB s) s.size 0 = true
    · simp [h]
    · simp [h]
  · intro k i _ h0 h1
    simp only [spec_NameOk.l0]
    rw [if_pos h1, if_pos h0, name_round]
  · intro k _
    simp only [spec_NameOk.l0]
    rw [if_neg (by omega), spec_l1In_eq]; rfl
theorem impl_NameOk_eq (s : ByteArray) (hn : s.size ≤ 140737488351232) (k : Nat) (hk : s.size < k) : impl_NameOk.f k s = some (nameOk s) := by
  unfold impl_NameOk.f nameOk
  rw [impl_in_eq]
  simp only [Option.bind_some]
  by_cases h12 : inB s.size 1 8 = true
  · rw [if_pos h12, h12]
    rw [all_loop hn 0 (nameB s) (fun k i => impl_NameOk.l0 k s i) (some true) ?_ ?_ s.size k 0 (by omega) (by omega) (by omega) (by omega)]
    · by_cases h : allFrom (nameB s) s.size 0 = true
      · simp [h]
      · simp [h]
    · intro k i _ h0 h1
      simp only [impl_NameOk.l0]
      rw [if_pos h1, if_pos h0, name_round]
    · intro k _
      simp only [impl_NameOk.l0]
      rw [if_neg (by omega)]
  · rw [if_neg h12]; simp [h12]

/-! ### PlainOk -/
def plainB (s : ByteArray) (i : Int) : Bool := !(decide (bt s i < 32) || decide (bt s i > 126) || decide (bt s i = 34) || decide (bt s i = 92))
def plainOk (s : ByteArray) : Bool := allFrom (plainB s) s.size 0 && decide ((s.size : Int) ≤ 12)
theorem plain_round (s : ByteArray) (i : Int) (x : Option Bool) :
    (if (bt s i) < 32 then (some false) else (if (bt s i) > 126 then (some false) else (if (bt s i) = 34 then (some false) else (if (bt s i) = 92 then (some false) else x)))) = if plainB s i = true then x else some false := by
  by_cases h1 : bt s i < 32
  · simp [plainB, h1]
  by_cases h2 : bt s i > 126
  · simp [plainB, h2]
  by_cases h3 : bt s i = 34
  · simp [plainB, h3]
  by_cases h4 : bt s i = 92
  · simp [plainB, h4]
  rw [if_neg h1, if_neg h2, if_neg h3, if_neg h4, if_pos (by simp [plainB, h1, h2, h3, h4])]
theorem spec_PlainOk_eq (s : ByteArray) (hn : s.size ≤ 140737488351232) (k : Nat) (hk : s.size < k) : spec_PlainOk.f k s = some (plainOk s) := by
  unfold spec_PlainOk.f plainOk
  rw [all_loop hn 0 (plainB s) (fun k i => spec_PlainOk.l0 k s i) (some (decide ((s.size : Int) ≤ 12))) ?_ ?_ s.size k 0 (by omega) (by omega) (by omega) (by omega)]
  · by_cases h : allFrom (plainB s) s.size 0 = true
    · simp [h]
    · simp [h]
  · intro k i _ h0 h1
    simp only [spec_PlainOk.l0]
    rw [if_pos h1, if_pos h0, plain_round]
  · intro k _
    simp only [spec_PlainOk.l0]
    rw [if_neg (by omega)]
theorem impl_PlainOk_eq (s : ByteArray) (hn : s.size ≤ 140737488351232) (k : Nat) (hk : s.size < k) : impl_PlainOk.f k s = some (plainOk s) := by
  unfold impl_PlainOk.f plainOk
  by_cases h12 : (s.size : Int) > 12
  · rw [if_pos h12, decide_eq_false (by omega)]; simp
  · rw [if_neg h12, decide_eq_true (by omega)]
    rw [all_loop hn 0 (plainB s) (fun k i => impl_PlainOk.l0 k s i) (some true) ?_ ?_ s.size k 0 (by omega) (by omega) (by omega) (by omega)]
    · by_cases h : allFrom (plainB s) s.size 0 = true
      · simp [h]
      · simp [h]
    · intro k i _ h0 h1
      simp only [impl_PlainOk.l0]
      rw [if_pos h1, if_pos h0, plain_round]
    · intro k _
      simp only [impl_PlainOk.l0]
      rw [if_neg (by omega)]

/-! ### LabelOk -/
def labelOk (a b : ByteArray) : Bool := nameOk a && plainOk b
theorem spec_LabelOk_eq (a b : ByteArray) (ha : a.size ≤ 140737488351232) (hb : b.size ≤ 140737488351232) (k : Nat) (hk : a.size < k) (hk' : b.size < k) : spec_LabelOk.f k a b = some (labelOk a b) := by
  unfold spec_LabelOk.f labelOk
  rw [spec_NameOk_eq a ha k hk, spec_PlainOk_eq b hb k hk']
  cases nameOk a <;> simp
theorem impl_LabelOk_eq (a b : ByteArray) (ha : a.size ≤ 140737488351232) (hb : b.size ≤ 140737488351232) (k : Nat) (hk : a.size < k) (hk' : b.size < k) : impl_LabelOk.f k a b = some (labelOk a b) := by
  unfold impl_LabelOk.f labelOk
  rw [impl_NameOk_eq a ha k hk, impl_PlainOk_eq b hb k hk']
  cases nameOk a <;> simp

/-! ### SetOk -/
/-- Each label's sizes. -/
def SizedL (M : Nat) (l : List S45) : Prop := ∀ x ∈ l, x.f0.size ≤ M ∧ x.f1.size ≤ M
theorem rd_mem (l : List S45) (i : Int) (h0 : 0 ≤ i) (h1 : i < (l.length : Int)) : rd_T45 l i ∈ l := by
  unfold rd_T45
  rw [List.getD_eq_getElem?_getD, List.getElem?_eq_getElem (by omega)]
  exact List.getElem_mem (by omega)
def setB (l : List S45) (i : Int) : Bool := labelOk (rd_T45 l i).f0 (rd_T45 l i).f1 && (decide (i = 0) || Op.bytesLess (rd_T45 l (i - 1)).f0.toList (rd_T45 l i).f0.toList)
def setOk (l : List S45) : Bool := allFrom (setB l) l.length 0 && decide (l.length ≤ 4)
theorem spec_SetOk_eq (l : List S45) (hl : l.length ≤ 1048576) (M : Nat) (hM : M ≤ 1048576) (hs : SizedL M l) (k : Nat) (hk : l.length + M + 1 < k) : spec_SetOk.f k l = some (setOk l) := by
  unfold spec_SetOk.f setOk
  rw [all_loop (n := l.length) (by omega) (M + 1) (setB l) (fun k i => spec_SetOk.l0 k l i) (some (decide ((l.length : Int) ≤ 4))) ?_ ?_ l.length k 0 (by omega) (by omega) (by omega) (by omega)]
  · have e : decide ((l.length : Int) ≤ 4) = decide (l.length ≤ 4) := by rw [decide_eq_decide]; omega
    rw [e]
    cases allFrom (setB l) l.length 0 <;> simp
  · intro k i hk h0 h1
    have hm := hs _ (rd_mem l i h0 h1)
    simp only [spec_SetOk.l0]
    rw [if_pos h1, if_pos h0, spec_LabelOk_eq _ _ (by omega) (by omega) _ (by omega) (by omega)]
    simp only [Option.bind_some]
    by_cases hL : labelOk (rd_T45 l i).f0 (rd_T45 l i).f1 = true
    · rw [if_pos hL]
      by_cases hz : i = 0
      · have e : setB l i = true := by unfold setB; rw [hL, decide_eq_true hz]; rfl
        rw [if_neg (by omega), if_pos e]
      · have e : setB l i = Op.bytesLess (rd_T45 l (i - 1)).f0.toList (rd_T45 l i).f0.toList := by simp [setB, hL, hz]
        rw [if_pos (by omega), w64 (x := i - 1) (by omega) (by omega), if_pos (by omega), if_pos (by omega), e]
        simp only [spec_Less.f, Option.bind_some]
    · have e : setB l i = false := by simp [setB, hL]
      rw [if_neg hL, if_neg (by simp [e])]
  · intro k _
    simp only [spec_SetOk.l0]
    rw [if_neg (by omega)]
theorem impl_SetOk_eq (l : List S45) (hl : l.length ≤ 1048576) (M : Nat) (hM : M ≤ 1048576) (hs : SizedL M l) (k : Nat) (hk : l.length + M + 1 < k) : impl_SetOk.f k l = some (setOk l) := by
  unfold impl_SetOk.f setOk
  have key := all_loop (n := l.length) (by omega) (M + 1) (fun i => decide (i < 4) && setB l i) (fun k i => impl_SetOk.l0 k l l l.length i) (some true) ?_ ?_ l.length k 0 (by omega) (by omega) (by omega) (by omega)
  · rw [key, bool_of_if]
    congr 1
    by_cases h4 : l.length ≤ 4
    · rw [decide_eq_true h4, Bool.and_true]
      exact allFrom_congr _ _ (fun j h0 h1 => by rw [decide_eq_true (by omega)]; rfl)
    · rw [decide_eq_false h4, Bool.and_false, Bool.eq_false_iff]
      intro h
      have := (allFrom_iff _ _).mp h 4 (by omega) (by omega)
      simp at this
  · intro k i hk h0 h1
    have hm := hs _ (rd_mem l i h0 h1)
    simp only [impl_SetOk.l0]
    rw [if_pos h1, if_pos h0, if_pos h1]
    by_cases h4 : i ≥ 4
    · rw [if_pos h4, decide_eq_false (by omega)]; simp
    · rw [if_neg h4, decide_eq_true (show i < 4 by omega), impl_LabelOk_eq _ _ (by omega) (by omega) _ (by omega) (by omega)]
      simp only [Option.bind_some, Bool.true_and]
      by_cases hL : labelOk (rd_T45 l i).f0 (rd_T45 l i).f1 = true
      · rw [if_pos hL]
        by_cases hz : i = 0
        · have e : setB l i = true := by unfold setB; rw [hL, decide_eq_true hz]; rfl
          rw [if_neg (by omega), if_pos e]
        · have e : setB l i = Op.bytesLess (rd_T45 l (i - 1)).f0.toList (rd_T45 l i).f0.toList := by simp [setB, hL, hz]
          rw [if_pos (by omega), w64 (x := i - 1) (by omega) (by omega), if_pos (by omega), if_pos (by omega), e]
      · have e : setB l i = false := by simp [setB, hL]
        rw [if_neg hL, if_neg (by simp [e])]
  · intro k _
    simp only [impl_SetOk.l0]
    rw [if_neg (by omega)]

/-! ### AlarmOk -/
def alarmOk (l : List S45) (s e : Int) (note : ByteArray) : Bool := decide ((l.length : Int) > 0) && (setOk l && (inB s 0 99999 && (inB e s 99999 && plainOk note)))
theorem spec_AlarmOk_eq (l : List S45) (s e : Int) (note : ByteArray) (hl : l.length ≤ 1048576) (M : Nat) (hM : M ≤ 1048576) (hs : SizedL M l) (hn : note.size ≤ 1048576) (k : Nat) (hk : 4194304 < k) : spec_AlarmOk.f k l s e note = some (alarmOk l s e note) := by
  unfold spec_AlarmOk.f alarmOk
  rw [spec_SetOk_eq l hl M hM hs k (by omega), spec_l1In_eq, spec_l1In_eq, spec_PlainOk_eq note (by omega) k (by omega)]
  cases setOk l <;> cases inB s 0 99999 <;> cases inB e s 99999 <;> by_cases h : 0 < l.length <;> simp [h]
theorem impl_AlarmOk_eq (l : List S45) (s e : Int) (note : ByteArray) (hl : l.length ≤ 1048576) (M : Nat) (hM : M ≤ 1048576) (hs : SizedL M l) (hn : note.size ≤ 1048576) (k : Nat) (hk : 4194304 < k) : impl_AlarmOk.f k l s e note = some (alarmOk l s e note) := by
  unfold impl_AlarmOk.f alarmOk
  rw [impl_SetOk_eq l hl M hM hs k (by omega), impl_in_eq, impl_in_eq, impl_PlainOk_eq note (by omega) k (by omega)]
  cases setOk l <;> cases inB s 0 99999 <;> cases inB e s 99999 <;> by_cases h : 0 < l.length <;> simp [h]

/-! ### SetTextS -/
def txt (s : ByteArray) (x : S45) : ByteArray := (((s ++ x.f0) ++ (⟨#[61, 34]⟩ : ByteArray)) ++ x.f1) ++ (⟨#[34]⟩ : ByteArray)
def restB : List S45 → ByteArray → ByteArray
  | [], s => s ++ (⟨#[125]⟩ : ByteArray)
  | x :: l, s => restB l (txt (s ++ (⟨#[44, 32]⟩ : ByteArray)) x)
def textOf : List S45 → ByteArray
  | [] => (⟨#[123]⟩ : ByteArray) ++ (⟨#[125]⟩ : ByteArray)
  | x :: l => restB l (txt (⟨#[123]⟩ : ByteArray) x)
def setText (l : List S45) : ByteArray := if setOk l = true then textOf l else (⟨#[]⟩ : ByteArray)
theorem setOk_le (l : List S45) (h : setOk l = true) : l.length ≤ 4 := by
  unfold setOk at h
  rw [Bool.and_eq_true] at h
  exact of_decide_eq_true h.2
theorem sz2 : ∀ a : UInt8, ∀ b : UInt8, (⟨#[a, b]⟩ : ByteArray).size = 2 := fun _ _ => rfl
theorem sz1 : ∀ a : UInt8, (⟨#[a]⟩ : ByteArray).size = 1 := fun _ => rfl
theorem spec_SetText_l (l : List S45) (hl : l.length ≤ 4) (hs : SizedL 1048576 l) (d : Nat) : ∀ (k : Nat) (s : ByteArray) (i : Int), 0 < i → i + d = (l.length : Int) → s.size + d * 4194304 ≤ 1099511627776 → d < k →
    spec_SetText.l0 k l s i = some (restB (l.drop i.toNat) s) := by
  induction d with
  | zero =>
    intro k s i h0 hd hsz hk
    obtain ⟨k, rfl⟩ : ∃ m, k = m + 1 := ⟨k - 1, by omega⟩
    simp only [spec_SetText.l0]
    rw [if_neg (by omega), if_pos (by omega), List.drop_eq_nil_of_le (by omega)]; rfl
  | succ d ih =>
    intro k s i h0 hd hsz hk
    obtain ⟨k, rfl⟩ : ∃ m, k = m + 1 := ⟨k - 1, by omega⟩
    have hm := hs _ (rd_mem l i (by omega) (by omega))
    simp only [spec_SetText.l0]
    rw [if_pos (by omega), if_pos (by omega), if_pos (by omega), if_pos (by omega)]
    rw [if_pos (by simp only [ByteArray.size_append, sz2, sz1]; omega), if_pos (by simp only [ByteArray.size_append, sz2, sz1]; omega), if_pos (by simp only [ByteArray.size_append, sz2, sz1]; omega), if_pos (by simp only [ByteArray.size_append, sz2, sz1]; omega)]
    rw [w64 (x := i + 1) (by omega) (by omega), drop_cons z45 l i (by omega) (by omega)]
    exact ih k _ (i + 1) (by omega) (by omega) (by simp only [ByteArray.size_append, sz2, sz1]; omega) (by omega)
theorem spec_SetText_eq (l : List S45) (hl : l.length ≤ 1048576) (hs : SizedL 1048576 l) (k : Nat) (hk : 4194304 < k) : spec_SetText.f k l = some (setText l) := by
  unfold spec_SetText.f setText
  rw [spec_SetOk_eq l hl 1048576 (by omega) hs k (by omega)]
  simp only [Option.bind_some]
  by_cases h : setOk l = true
  · rw [if_pos h, if_pos h]
    have h4 := setOk_le l h
    obtain ⟨k, rfl⟩ : ∃ m, k = m + 1 := ⟨k - 1, by omega⟩
    cases l with
    | nil =>
      simp only [spec_SetText.l0]
      rw [if_neg (by simp), if_pos (by decide)]; rfl
    | cons x l =>
      have hm := hs x List.mem_cons_self
      have e := spec_SetText_l (x :: l) h4 hs l.length k (txt (⟨#[123]⟩ : ByteArray) x) 1 (by omega) (by simp; omega) (by simp only [txt, ByteArray.size_append, sz2, sz1]; simp at h4; omega) (by simp at h4; omega)
      simp only [spec_SetText.l0]
      have hr : rd_T45 (x :: l) 0 = x := rfl
      rw [if_pos (by simp only [List.length_cons]; omega), if_neg (by omega), if_pos (by omega), hr]
      rw [if_pos (by simp only [ByteArray.size_append, sz2, sz1]; omega), if_pos (by simp only [ByteArray.size_append, sz2, sz1]; omega), if_pos (by simp only [ByteArray.size_append, sz2, sz1]; omega), if_pos (by simp only [ByteArray.size_append, sz2, sz1]; omega)]
      rw [w64 (x := 0 + 1) (by omega) (by omega)]
      exact e
  · rw [if_neg h, if_neg h]

/-! ### SetText -/
def txt1 (x : S45) : ByteArray := ((x.f0 ++ (⟨#[61, 34]⟩ : ByteArray)) ++ x.f1) ++ (⟨#[34]⟩ : ByteArray)
theorem impl_SetText_l (l : List S45) (hl : l.length ≤ 4) (hs : SizedL 1048576 l) (d : Nat) : ∀ (k : Nat) (out : List ByteArray) (i : Int), 0 ≤ i → i + d = (l.length : Int) → out.length ≤ i.toNat → d < k →
    impl_SetText.l0 k out l l.length i = impl_SetText.l0 (k - d) (out ++ (l.drop i.toNat).map txt1) l l.length l.length := by
  induction d with
  | zero =>
    intro k out i h0 hd ho hk
    obtain rfl : i = (l.length : Int) := by omega
    rw [List.drop_eq_nil_of_le (by omega)]
    simp
  | succ d ih =>
    intro k out i h0 hd ho hk
    obtain ⟨k, rfl⟩ : ∃ m, k = m + 1 := ⟨k - 1, by omega⟩
    have hm := hs _ (rd_mem l i (by omega) (by omega))
    rw [drop_cons z45 l i h0 (by omega), List.map_cons]
    have e : k + 1 - (d + 1) = k - d := by omega
    rw [e]
    conv => lhs; unfold impl_SetText.l0
    rw [if_pos (by omega), if_pos (by omega), if_pos (by omega)]
    rw [if_pos (by omega), if_pos (by simp only [ByteArray.size_append, sz2, sz1]; omega), if_pos (by simp only [ByteArray.size_append, sz2, sz1]; omega), if_pos (by omega)]
    rw [w64 (x := i + 1) (by omega) (by omega), ih k _ (i + 1) (by omega) (by omega) (by simp; omega) (by omega), List.append_assoc]
    rfl
theorem rest_list (l : List S45) : ∀ s : ByteArray, (restB l s).data.toList = s.data.toList ++ Lib.joinTail [44, 32] ((l.map txt1).map (·.data.toList)) ++ [125] := by
  induction l with
  | nil => intro s; simp [restB, Lib.joinTail]
  | cons x l ih =>
    intro s
    simp only [restB]
    rw [ih]
    simp [txt, txt1, Lib.joinTail]
theorem text_join (l : List S45) : ((⟨#[123]⟩ : ByteArray) ++ Foreign.joinBytes (l.map txt1) (⟨#[44, 32]⟩ : ByteArray)) ++ (⟨#[125]⟩ : ByteArray) = textOf l := by
  have hinj : ∀ a b : ByteArray, a.data.toList = b.data.toList → a = b := by
    intro a b h
    cases a
    cases b
    congr
    simpa using h
  apply hinj
  cases l with
  | nil => simp [textOf, Foreign.joinBytes, Lib.join_nil]
  | cons x l =>
    simp only [textOf]
    rw [rest_list]
    simp only [Foreign.joinBytes, List.map_cons, Lib.join_cons]
    simp [txt, txt1]
theorem sum_txt (l : List S45) (hs : SizedL 1048576 l) : (Lib.joinTail [44, 32] ((l.map txt1).map (·.data.toList))).length ≤ l.length * 4194304 := by
  induction l with
  | nil => simp [Lib.joinTail]
  | cons x l ih =>
    have hm := hs x List.mem_cons_self
    have := ih (fun y hy => hs y (List.mem_cons_of_mem _ hy))
    have e : (txt1 x).data.toList.length = x.f0.size + 2 + x.f1.size + 1 := by
      have : (txt1 x).data.toList.length = (txt1 x).size := by rw [Array.length_toList]; rfl
      rw [this]
      simp only [txt1, ByteArray.size_append, sz2, sz1]
    have e2 : (Lib.joinTail [44, 32] (((x :: l).map txt1).map (·.data.toList))).length = 2 + (txt1 x).data.toList.length + (Lib.joinTail [44, 32] ((l.map txt1).map (·.data.toList))).length := by
      simp [Lib.joinTail]
      omega
    rw [e2, e, List.length_cons, Nat.succ_mul]
    omega
theorem join_some (l : List S45) (hl : l.length ≤ 4) (hs : SizedL 1048576 l) : strings_Join.f (l.map txt1) (⟨#[44, 32]⟩ : ByteArray) = some (Foreign.joinBytes (l.map txt1) (⟨#[44, 32]⟩ : ByteArray)) ∧ (Foreign.joinBytes (l.map txt1) (⟨#[44, 32]⟩ : ByteArray)).size ≤ 1099511627776 := by
  have hlen : (Lib.join ((l.map txt1).map (·.data.toList)) (⟨#[44, 32]⟩ : ByteArray).data.toList).length ≤ 1073741824 := by
    cases l with
    | nil => simp [Lib.join_nil]
    | cons x l =>
      have hm := hs x List.mem_cons_self
      have h2 := sum_txt l (fun y hy => hs y (List.mem_cons_of_mem _ hy))
      have e : (txt1 x).data.toList.length = x.f0.size + 2 + x.f1.size + 1 := by
        have : (txt1 x).data.toList.length = (txt1 x).size := by rw [Array.length_toList]; rfl
        rw [this]
        simp only [txt1, ByteArray.size_append, sz2, sz1]
      simp only [List.map_cons, Lib.join_cons, List.length_append]
      have h3 : (Lib.joinTail (⟨#[44, 32]⟩ : ByteArray).data.toList ((l.map txt1).map (·.data.toList))).length ≤ l.length * 4194304 := h2
      rw [e]
      simp at hl
      omega
  constructor
  · unfold strings_Join.f Foreign.joinOf
    rw [if_pos ⟨by simp; omega, by omega⟩]
  · have : (Foreign.joinBytes (l.map txt1) (⟨#[44, 32]⟩ : ByteArray)).size = (Lib.join ((l.map txt1).map (·.data.toList)) (⟨#[44, 32]⟩ : ByteArray).data.toList).length := by
      simp [Foreign.joinBytes, ByteArray.size]
    omega
theorem impl_SetText_eq (l : List S45) (hl : l.length ≤ 1048576) (hs : SizedL 1048576 l) (k : Nat) (hk : 4194304 < k) : impl_SetText.f k l = some (setText l) := by
  unfold impl_SetText.f setText
  rw [impl_SetOk_eq l hl 1048576 (by omega) hs k (by omega)]
  simp only [Option.bind_some]
  by_cases h : setOk l = true
  · rw [if_pos h, if_pos h]
    have h4 := setOk_le l h
    obtain ⟨j1, j2⟩ := join_some l h4 hs
    rw [impl_SetText_l l h4 hs l.length k [] 0 (by omega) (by omega) (by simp) (by omega)]
    obtain ⟨m, hm⟩ : ∃ m, k - l.length = m + 1 := ⟨k - l.length - 1, by omega⟩
    rw [hm]
    simp only [impl_SetText.l0]
    rw [if_neg (by omega)]
    have e : ([] : List ByteArray) ++ (l.drop (0 : Int).toNat).map txt1 = l.map txt1 := by simp
    rw [e, j1]
    simp only [Option.bind_some]
    rw [if_pos (by omega), if_pos (by simp only [ByteArray.size_append, sz1]; omega), text_join]
  · rw [if_neg h, if_neg h]

/-! ### Sum -/
theorem bits_xor_nat (k : IntKind) (j : Nat) (hj : j ≤ k.bits) (hk : ∀ n : Int, 0 ≤ n → n < 2 ^ j → k.wrap n = n) (a b : Nat) (ha : a < 2 ^ j) (hb : b < 2 ^ j) :
    Go.bits .xor k a b = ((a ^^^ b : Nat) : Int) := by
  have hp : 2 ^ j ≤ 2 ^ k.bits := Nat.pow_le_pow_right (by decide) hj
  have ha' : a % 2 ^ k.bits = a := Nat.mod_eq_of_lt (Nat.lt_of_lt_of_le ha hp)
  have hb' : b % 2 ^ k.bits = b := Nat.mod_eq_of_lt (Nat.lt_of_lt_of_le hb hp)
  simp only [Go.bits, BitVec.ofInt_natCast, BitVec.toNat_xor, BitVec.toNat_ofNat, ha', hb']
  exact hk _ (Int.natCast_nonneg _) (by exact_mod_cast Nat.xor_lt_two_pow ha hb)
theorem xor_u32 (a b : Int) (ha : 0 ≤ a) (ha' : a < 4294967296) (hb : 0 ≤ b) (hb' : b < 4294967296) : Go.bits .xor .u32 a b = ((a.toNat ^^^ b.toNat : Nat) : Int) := by
  obtain ⟨a, rfl⟩ := Int.eq_ofNat_of_zero_le ha
  obtain ⟨b, rfl⟩ := Int.eq_ofNat_of_zero_le hb
  exact bits_xor_nat .u32 32 (by decide) (fun n h0 h1 => by rw [IntKind.wrap_u32]; omega) a b (by omega) (by omega)
theorem xor_i64 (a b : Int) (ha : 0 ≤ a) (ha' : a < 4294967296) (hb : 0 ≤ b) (hb' : b < 4294967296) : Go.bits .xor .i64 a b = ((a.toNat ^^^ b.toNat : Nat) : Int) := by
  obtain ⟨a, rfl⟩ := Int.eq_ofNat_of_zero_le ha
  obtain ⟨b, rfl⟩ := Int.eq_ofNat_of_zero_le hb
  exact bits_xor_nat .i64 32 (by decide) (fun n h0 h1 => by rw [IntKind.wrap_i64]; omega) a b (by omega) (by omega)
theorem xor_lt32 (a b : Int) (ha : 0 ≤ a) (ha' : a < 4294967296) (hb : 0 ≤ b) (hb' : b < 4294967296) : ((a.toNat ^^^ b.toNat : Nat) : Int) < 4294967296 := by
  have := Nat.xor_lt_two_pow (n := 32) (x := a.toNat) (y := b.toNat) (by omega) (by omega)
  omega
theorem mask32 (x : Int) (h0 : 0 ≤ x) (h1 : x < 9223372036854775808) : Go.bits .and .i64 x 4294967295 = x % 4294967296 :=
  Go.bits_mask .i64 63 (by decide) (fun n h0 h1 => by rw [IntKind.wrap_i64]; omega) 32 (by decide) x h0 h1
def sumStep (s : ByteArray) (n i : Int) : Int := (((n.toNat ^^^ (bt s i).toNat : Nat) : Int) * 16777619) % 4294967296
def sumFrom (s : ByteArray) : Nat → Int → Int → Int
  | 0, _, n => n
  | d + 1, i, n => sumFrom s d (i + 1) (sumStep s n i)
def sumOf (s : ByteArray) : Int := sumFrom s s.size 0 2166136261
theorem sumStep_range (s : ByteArray) (n i : Int) : 0 ≤ sumStep s n i ∧ sumStep s n i < 4294967296 := by unfold sumStep; omega
theorem sumFrom_range (s : ByteArray) (d : Nat) : ∀ i n : Int, 0 ≤ n → n < 4294967296 → 0 ≤ sumFrom s d i n ∧ sumFrom s d i n < 4294967296 := by
  induction d with
  | zero => intro i n h0 h1; exact ⟨h0, h1⟩
  | succ d ih => intro i n _ _; exact ih _ _ (sumStep_range s n i).1 (sumStep_range s n i).2
theorem sumOf_range (s : ByteArray) : 0 ≤ sumOf s ∧ sumOf s < 4294967296 := sumFrom_range s _ _ _ (by omega) (by omega)
theorem spec_sum_step (s : ByteArray) (n i : Int) (h0 : 0 ≤ n) (h1 : n < 4294967296) :
    Go.bits .and .i64 (wrap64 ((Go.bits .xor .i64 n (wrap64 (bt s i))) * 16777619)) 4294967295 = sumStep s n i := by
  have hb := bt_range s i
  rw [w64 (x := bt s i) (by omega) (by omega), xor_i64 n (bt s i) h0 h1 hb.1 (by omega)]
  have := xor_lt32 n (bt s i) h0 h1 hb.1 (by omega)
  rw [w64 (by omega) (by omega), mask32 _ (by omega) (by omega)]
  rfl
theorem impl_sum_step (s : ByteArray) (n i : Int) (h0 : 0 ≤ n) (h1 : n < 4294967296) :
    (((Go.bits .xor .u32 n ((bt s i) % 4294967296)) * 16777619) % 4294967296) = sumStep s n i := by
  have hb := bt_range s i
  rw [show bt s i % 4294967296 = bt s i by omega, xor_u32 n (bt s i) h0 h1 hb.1 (by omega)]
  rfl

/-! ### Finger -/
theorem textOf_le (l : List S45) (hl : l.length ≤ 4) (hs : SizedL 1048576 l) : (textOf l).size ≤ 4194000 * 4 + 100 := by
  have key : ∀ (l : List S45), SizedL 1048576 l → ∀ s : ByteArray, (restB l s).size ≤ s.size + l.length * 2097160 + 1 := by
    intro l
    induction l with
    | nil => intro _ s; simp only [restB, ByteArray.size_append, sz1]; simp
    | cons x l ih =>
      intro hs s
      have hm := hs x List.mem_cons_self
      have := ih (fun y hy => hs y (List.mem_cons_of_mem _ hy)) (txt (s ++ (⟨#[44, 32]⟩ : ByteArray)) x)
      simp only [restB]
      simp only [txt, ByteArray.size_append, sz2, sz1] at this ⊢
      rw [List.length_cons, Nat.succ_mul]
      omega
  cases l with
  | nil => simp only [textOf, ByteArray.size_append, sz1]; omega
  | cons x l =>
    have hm := hs x List.mem_cons_self
    have := key l (fun y hy => hs y (List.mem_cons_of_mem _ hy)) (txt (⟨#[123]⟩ : ByteArray) x)
    simp only [textOf]
    simp only [txt, ByteArray.size_append, sz2, sz1] at this ⊢
    simp at hl
    omega
theorem setText_le (l : List S45) (hs : SizedL 1048576 l) : (setText l).size ≤ 16776100 := by
  unfold setText
  by_cases h : setOk l = true
  · rw [if_pos h]
    have := textOf_le l (setOk_le l h) hs
    omega
  · rw [if_neg h]
    exact Nat.zero_le _
def finger (l : List S45) : Int := Int.tmod (Go.bits .xor .i64 (sumOf (setText l)) (sumOf (setText l) / 65536)) 32

/-! ### NumText -/
/-- The digits of v, none for 0. -/
def Dl (v : Nat) : List UInt8 := if v = 0 then [] else Go.Lib.decDigits v
theorem Dl_step (v : Nat) (h : v ≠ 0) : Dl v = Dl (v / 10) ++ [UInt8.ofNat (48 + v % 10)] := by
  unfold Dl
  rw [if_neg h]
  by_cases h1 : v < 10
  · rw [Go.Lib.decDigits_one h1, if_pos (by omega), Nat.mod_eq_of_lt h1]; rfl
  · rw [if_neg (by omega), Go.Lib.decDigits, dif_neg h1]
theorem nd_le : ∀ (m v : Nat), v < 10 ^ (m + 1) → Go.Lib.nDigits v ≤ m + 1
  | 0, v, h => by rw [Go.Lib.nDigits_small (by simpa using h)]; omega
  | m + 1, v, h => by
    by_cases h1 : v < 10
    · rw [Go.Lib.nDigits_small h1]; omega
    · rw [Nat.pow_succ] at h
      rw [Go.Lib.nDigits_big h1]
      have := nd_le m (v / 10) (by omega)
      omega
theorem strOfD (d : Nat) (hd : d < 10) (s : List UInt8) : strOfNums [(48 + (d : Int)) % 256] ++ (⟨s.toArray⟩ : ByteArray) = ⟨(UInt8.ofNat (48 + d) :: s).toArray⟩ := by
  have e : ((48 + (d : Int)) % 256).toNat = 48 + d := by omega
  unfold strOfNums
  rw [List.map_cons, List.map_nil, e, ByteArray.mk_append_mk]
  rfl
theorem numLoop (d : Nat) : ∀ (k v : Nat) (x0 x : Int) (s : List UInt8), x.natAbs = v → v < 10 ^ d → v ≤ 9223372036854775808 → s.length + d ≤ 1000 → d < k →
    spec_NumText.l0 k x0 ⟨s.toArray⟩ x = some ⟨((if x0 < 0 then [45] else []) ++ (Dl v ++ s)).toArray⟩ := by
  induction d with
  | zero =>
    intro k v x0 x s hx h1 _ hs hk
    obtain ⟨k, rfl⟩ : ∃ m, k = m + 1 := ⟨k - 1, by omega⟩
    have hv : v = 0 := by omega
    subst hv
    have hx0 : x = 0 := by omega
    simp only [spec_NumText.l0]
    rw [if_pos hx0]
    have hz : (⟨s.toArray⟩ : ByteArray).size = s.length := by simp [ByteArray.size]
    by_cases hn : x0 < 0
    · rw [if_pos hn, if_pos hn, if_pos (by rw [hz]; omega)]
      have e : (⟨#[45]⟩ : ByteArray) ++ (⟨s.toArray⟩ : ByteArray) = ⟨([45] ++ s).toArray⟩ := ByteArray.mk_append_mk [45] s
      rw [e]; simp [Dl]
    · rw [if_neg hn, if_neg hn]; simp [Dl]
  | succ d ih =>
    intro k v x0 x s hx h1 h2 hs hk
    have hz : (⟨s.toArray⟩ : ByteArray).size = s.length := by simp [ByteArray.size]
    by_cases hv : v = 0
    · obtain ⟨k, rfl⟩ : ∃ m, k = m + 1 := ⟨k - 1, by omega⟩
      subst hv
      have hx0 : x = 0 := by omega
      simp only [spec_NumText.l0]
      rw [if_pos hx0]
      by_cases hn : x0 < 0
      · rw [if_pos hn, if_pos hn, if_pos (by rw [hz]; omega)]
        have e : (⟨#[45]⟩ : ByteArray) ++ (⟨s.toArray⟩ : ByteArray) = ⟨([45] ++ s).toArray⟩ := ByteArray.mk_append_mk [45] s
        rw [e]; simp [Dl]
      · rw [if_neg hn, if_neg hn]; simp [Dl]
    · obtain ⟨k, rfl⟩ : ∃ m, k = m + 1 := ⟨k - 1, by omega⟩
      have hx0 : ¬ x = 0 := by omega
      have hp : v < 10 ^ d * 10 := by rw [← Nat.pow_succ]; exact h1
      have one : ∀ c : Int, (strOfNums [c]).size = 1 := fun c => by simp [strOfNums, ByteArray.size]
      have hd10 : v % 10 < 10 := Nat.mod_lt _ (by omega)
      have key : ∀ (y : Int), y.natAbs = v / 10 → spec_NumText.l0 k x0 (strOfNums [(48 + ((v % 10 : Nat) : Int)) % 256] ++ ⟨s.toArray⟩) y = some ⟨((if x0 < 0 then [45] else []) ++ (Dl v ++ s)).toArray⟩ := by
        intro y hy
        rw [strOfD _ hd10, ih k (v / 10) x0 y _ hy (by omega) (by omega) (by simp; omega) (by omega), Dl_step v hv]
        simp
      simp only [spec_NumText.l0]
      rw [if_neg hx0]
      simp only [Option.bind_some]
      rcases Int.lt_or_le x 0 with hneg | hpos
      · obtain ⟨u, rfl⟩ : ∃ u : Nat, x = -(u : Int) := ⟨x.natAbs, by omega⟩
        have hu : u = v := by omega
        subst hu
        have et : Int.tmod (-(u : Int)) 10 = -(((u % 10 : Nat)) : Int) := by
          rw [Int.neg_tmod, Int.tmod_eq_emod_of_nonneg (by omega)]; omega
        have ed : Int.tdiv (-(u : Int)) 10 = -(((u / 10 : Nat)) : Int) := by
          rw [Int.neg_tdiv, Int.tdiv_eq_ediv_of_nonneg (by omega)]; omega
        rw [et, ed]
        by_cases hm : -(((u % 10 : Nat)) : Int) < 0
        · rw [if_pos hm, if_pos (by rw [one, hz]; omega), w64 (x := -(-((u % 10 : Nat) : Int))) (by omega) (by omega), Int.neg_neg, w64 (x := 48 + ((u % 10 : Nat) : Int)) (by omega) (by omega), w64 (x := -((u / 10 : Nat) : Int)) (by omega) (by omega)]
          exact key _ (by omega)
        · have h0 : ((u % 10 : Nat) : Int) = 0 := by omega
          rw [if_neg hm, if_pos (by rw [one, hz]; omega), w64 (x := -((u / 10 : Nat) : Int)) (by omega) (by omega)]
          have := key (-((u / 10 : Nat) : Int)) (by omega)
          rw [h0] at this ⊢
          have e0 : wrap64 (48 + -(0 : Int)) = 48 + 0 := (w64 (by omega) (by omega)).trans (by omega)
          rw [e0]
          exact this
      · obtain ⟨u, rfl⟩ : ∃ u : Nat, x = (u : Int) := ⟨x.natAbs, by omega⟩
        have hu : u = v := by omega
        subst hu
        have et : Int.tmod (u : Int) 10 = ((u % 10 : Nat) : Int) := by
          rw [Int.tmod_eq_emod_of_nonneg (by omega)]; omega
        have ed : Int.tdiv (u : Int) 10 = ((u / 10 : Nat) : Int) := by
          rw [Int.tdiv_eq_ediv_of_nonneg (by omega)]; omega
        rw [et, ed, if_neg (by omega), if_pos (by rw [one, hz]; omega), w64 (x := 48 + ((u % 10 : Nat) : Int)) (by omega) (by omega), w64 (x := ((u / 10 : Nat) : Int)) (by omega) (by omega)]
        exact key _ (by omega)
theorem spec_NumText_eq (n : Int) (h : (Lit.int .i64 n).wf = true) (k : Nat) (hk : 30 < k) : spec_NumText.f k n = some (Foreign.itoaBytes n) := by
  obtain ⟨h0, h1⟩ : -9223372036854775808 ≤ n ∧ n ≤ 9223372036854775807 := by
    have := h
    simp [Lit.wf, IntKind.min, IntKind.max, IntKind.signed, IntKind.bits] at this
    omega
  unfold spec_NumText.f Foreign.itoaBytes Go.Lib.itoa
  by_cases hz : n = 0
  · subst hz
    rw [if_pos rfl, if_neg (by omega)]
    have e : Go.Lib.decDigits (0 : Int).toNat = [48] := Go.Lib.decDigits_one (by decide)
    rw [e]
  · rw [if_neg hz]
    have := numLoop 20 k n.natAbs n n [] rfl (by omega) (by omega) (by decide) (by omega)
    have ea : (⟨([] : List UInt8).toArray⟩ : ByteArray) = (⟨#[]⟩ : ByteArray) := rfl
    rw [ea] at this
    rw [this]
    have e2 : Dl n.natAbs = Go.Lib.decDigits n.natAbs := by unfold Dl; rw [if_neg (by omega)]
    rw [e2]
    by_cases hn : n < 0
    · rw [if_pos hn, if_pos hn]; simp
    · rw [if_neg hn, if_neg hn]
      have e3 : n.natAbs = n.toNat := by omega
      rw [e3]; simp
theorem impl_NumText_eq (n : Int) (h : (Lit.int .i64 n).wf = true) : impl_NumText.f n = some (Foreign.itoaBytes n) := by
  obtain ⟨h0, h1⟩ : -9223372036854775808 ≤ n ∧ n ≤ 9223372036854775807 := by
    have := h
    simp [Lit.wf, IntKind.min, IntKind.max, IntKind.signed, IntKind.bits] at this
    omega
  unfold impl_NumText.f strconv_Itoa.f Foreign.itoaOf
  rw [if_pos ⟨h0, h1⟩]; rfl
theorem itoa_le (n : Int) (h : (Lit.int .i64 n).wf = true) : (Foreign.itoaBytes n).size ≤ 30 := by
  obtain ⟨h0, h1⟩ : -9223372036854775808 ≤ n ∧ n ≤ 9223372036854775807 := by
    have := h
    simp [Lit.wf, IntKind.min, IntKind.max, IntKind.signed, IntKind.bits] at this
    omega
  have e : (Foreign.itoaBytes n).size = (Go.Lib.itoa n).length := by unfold Foreign.itoaBytes; simp [ByteArray.size]
  rw [e]
  unfold Go.Lib.itoa
  by_cases hn : n < 0
  · rw [if_pos hn, List.length_cons, Go.Lib.decDigits_length]
    have := nd_le 19 n.natAbs (by omega)
    omega
  · rw [if_neg hn, Go.Lib.decDigits_length]
    have := nd_le 19 n.toNat (by omega)
    omega

/-! ### AlarmText -/
def alarmText (l : List S45) (s e : Int) (n : ByteArray) : ByteArray := if alarmOk l s e n = true then ((((((setText l ++ (⟨#[32]⟩ : ByteArray)) ++ Foreign.itoaBytes s) ++ (⟨#[45]⟩ : ByteArray)) ++ Foreign.itoaBytes e) ++ (⟨#[32, 34]⟩ : ByteArray)) ++ n) ++ (⟨#[34]⟩ : ByteArray) else (⟨#[]⟩ : ByteArray)
theorem spec_AlarmText_eq (l : List S45) (s e : Int) (n : ByteArray) (hl : l.length ≤ 1048576) (hs : SizedL 1048576 l) (hn : n.size ≤ 1048576) (ws : (Lit.int .i64 s).wf = true) (we : (Lit.int .i64 e).wf = true) (k : Nat) (hk : 16777216 < k) :
    spec_AlarmText.f k l s e n = some (alarmText l s e n) := by
  have z0 := setText_le l hs
  have z1 := itoa_le s ws
  have z2 := itoa_le e we
  unfold spec_AlarmText.f alarmText
  rw [spec_AlarmOk_eq l s e n hl 1048576 (by omega) hs hn k (by omega)]
  simp only [Option.bind_some]
  by_cases h : alarmOk l s e n = true
  · rw [if_pos h, if_pos h, spec_SetText_eq l hl hs k (by omega), spec_NumText_eq s ws k (by omega), spec_NumText_eq e we k (by omega)]
    simp only [Option.bind_some, ByteArray.size_append, sz1, sz2]
    rw [if_pos (by omega), if_pos (by omega), if_pos (by omega), if_pos (by omega), if_pos (by omega), if_pos (by omega), if_pos (by omega)]
  · rw [if_neg h, if_neg h]
theorem impl_AlarmText_eq (l : List S45) (s e : Int) (n : ByteArray) (hl : l.length ≤ 1048576) (hs : SizedL 1048576 l) (hn : n.size ≤ 1048576) (ws : (Lit.int .i64 s).wf = true) (we : (Lit.int .i64 e).wf = true) (k : Nat) (hk : 16777216 < k) :
    impl_AlarmText.f k l s e n = some (alarmText l s e n) := by
  have z0 := setText_le l hs
  have z1 := itoa_le s ws
  have z2 := itoa_le e we
  unfold impl_AlarmText.f alarmText
  rw [impl_AlarmOk_eq l s e n hl 1048576 (by omega) hs hn k (by omega)]
  simp only [Option.bind_some]
  by_cases h : alarmOk l s e n = true
  · rw [if_pos h, if_pos h, impl_SetText_eq l hl hs k (by omega), impl_NumText_eq s ws, impl_NumText_eq e we]
    simp only [Option.bind_some, ByteArray.size_append, sz1, sz2]
    rw [if_pos (by omega), if_pos (by omega), if_pos (by omega), if_pos (by omega), if_pos (by omega), if_pos (by omega), if_pos (by omega)]
  · rw [if_neg h, if_neg h]

theorem FnExactAlarmText (aL : List S41) (aS aE : Int) (aN : ByteArray) (ha : (aL.length ≤ 9223372036854775807 ∧ ∀ b ∈ aL, b.f0.size ≤ 9223372036854775807 ∧ b.f1.size ≤ 9223372036854775807) ∧ (Lit.int .i64 aS).wf = true ∧ (Lit.int .i64 aE).wf = true ∧ aN.size ≤ 9223372036854775807) : ∃ k, laws_FnExactAlarmText.f k aL aS aE aN = some true := by
  obtain ⟨m, hm⟩ : ∃ m : Nat, 16777216 < m := ⟨16777217, by omega⟩
  have hm1 : 16777216 < m + 1 := by omega
  have hm2 : 16777216 < m + 2 := by omega
  have hm11 : 16777216 < m + 1 + 1 := by omega
  refine ⟨m + 2, ?_⟩
  unfold laws_FnExactAlarmText.f
  obtain ⟨left1, hleft1⟩ : ∃ x, x = left' ((szL aL + aN.size)) 1048576 := ⟨_, rfl⟩
  rw [laws_szAlarm_eq aL aS aE aN ha.1 ha.2.2.2 _ (by omega) (by omega) _ (by omega), ← hleft1]
  simp only [Option.bind_some]
  by_cases hz1 : left1 < 0
  · rw [if_pos hz1]
  rw [if_neg hz1]
  have hb1 : (((szL aL + aN.size) : Nat) : Int) ≤ 1048576 := left_ge (by omega) (by rw [← hleft1]; exact hz1)
  have hc1 : left1 ≤ 1048576 := by rw [hleft1]; exact left_le (by omega)
  clear hleft1
  have la : aL.length ≤ 1048576 := by have := len_le_szL aL; omega
  have qa : (labsOf aL).length ≤ 1048576 := by rw [labsOf_length]; exact la
  have za := sized_labs aL (by omega)
  have na : aN.size ≤ 1048576 := by omega
  have ta : ∀ k, 16777216 < k → laws_toAlarm.f k aL aS aE aN = some (labsOf aL, aS, aE, aN) := fun k hk => laws_toAlarm_eq aL aS aE aN la k (by omega)
  have ea : ∀ k, 16777216 < k → laws_eqAlarm.f k (labsOf aL) aS aE aN (labsOf aL) aS aE aN = some true := fun k hk => laws_eqAlarm_refl _ _ _ _ (by omega) k (by omega)
  have sF : ∀ k, 16777216 < k → spec_AlarmText.f k (labsOf aL) aS aE aN = some (alarmText (labsOf aL) aS aE aN) := fun k hk => spec_AlarmText_eq _ _ _ _ (by omega) za (by omega) ha.2.1 ha.2.2.1 k (by omega)
  have iF : ∀ k, 16777216 < k → impl_AlarmText.f k (labsOf aL) aS aE aN = some (alarmText (labsOf aL) aS aE aN) := fun k hk => impl_AlarmText_eq _ _ _ _ (by omega) za (by omega) ha.2.1 ha.2.2.1 k (by omega)
  simp only [sF, iF, ta, ea, hm, hm1, hm2, hm11, Option.bind_some, bne_self_eq_false, beq_self_eq_true, if_true, Bool.false_eq_true, if_false, Bool.not_true, Bool.not_false]

end Go.Proofs.YtglefglknlcojadDoor.Pure
