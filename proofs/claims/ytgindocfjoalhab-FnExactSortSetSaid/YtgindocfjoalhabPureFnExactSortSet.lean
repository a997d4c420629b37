/- The program's SortSet returns what the reference's SortSet returns, for all arguments, and leaves them alone; no conditions. -/
import Derived.Test.YtgindocfjoalhabPFnExactSortSetx8
import Derived.Test.YtgindocfjoalhabM0
import Derived.Test.YtgindocfjoalhabM1
import Derived.Test.YtgindocfjoalhabM2
import Derived.Test.YtgindocfjoalhabM3
import Derived.Test.YtgindocfjoalhabM4
set_option linter.unusedVariables false
set_option linter.unusedSimpArgs false
namespace Go.Proofs.Ytgindocfjoalhab.Pure
open Go.RowKit Go.Proofs.Ytgindocfjoalhab.PFnExactSortSet Go.Proofs.YtgindocfjoalhabW.PrintWords Go.Proofs.YtgindocfjoalhabW.PrintLast Go.Proofs.Ytgindocfjoalhab.M0 Go.Proofs.Ytgindocfjoalhab.M1 Go.Proofs.Ytgindocfjoalhab.M2 Go.Proofs.Ytgindocfjoalhab.M3 Go.Proofs.Ytgindocfjoalhab.M4

/-! ### LabS -/
def labOf (x : S122) : S86 := ⟨x.f0, x.f1⟩
def labsOf (l : List S122) : List S86 := l.map labOf
def szLab (x : S122) : Nat := x.f0.size + x.f1.size
def szL (l : List S122) : Nat := l.length + (l.map szLab).sum
/-- Sizes that Go knows. -/
def WfL (l : List S122) : Prop := l.length ≤ 9223372036854775807 ∧ ∀ x ∈ l, x.f0.size ≤ 9223372036854775807 ∧ x.f1.size ≤ 9223372036854775807
theorem labsOf_length (l : List S122) : (labsOf l).length = l.length := by simp [labsOf]
theorem len_le_szL (l : List S122) : l.length ≤ szL l := by unfold szL; omega
theorem sum_mem {α : Type} (f : α → Nat) : ∀ (l : List α) (x : α), x ∈ l → f x ≤ (l.map f).sum
  | [], x, h => by simp at h
  | a :: l, x, h => by
    rcases List.mem_cons.1 h with rfl | h
    · simp
    · have := sum_mem f l x h
      simp only [List.map_cons, List.sum_cons]
      omega
theorem laws_szLabel_eq (a b : ByteArray) (ha : a.size ≤ 9223372036854775807) (hb : b.size ≤ 9223372036854775807) (left : Int) (h0 : 0 ≤ left) (h1 : left ≤ 1048576) : laws_szLabel.f a b left = some (left' (a.size + b.size) left) := by
  unfold laws_szLabel.f
  rw [← left_add _ _ _ h0, left_of_wrap ha h0 h1 (fun t => if (wrap64 (t - (b.size : Int))) < 0 then (some (-1)) else (some (wrap64 (t - (b.size : Int)))))]
  by_cases hz : left' a.size left < 0
  · rw [if_pos hz, if_pos hz]
  · rw [if_neg hz, if_neg hz]
    have hle := left_ge h0 hz
    have e : left' a.size left = left - a.size := by unfold left'; rw [if_pos hle]
    rw [left_of_wrap hb (by omega) (by omega) (fun t => some t)]
    by_cases hy : left' b.size (left' a.size left) < 0
    · rw [if_pos hy]
      rw [left_neg_one (by omega) hy]
    · rw [if_neg hy]
theorem rdML_mem (l : List S122) (i : Int) (h0 : 0 ≤ i) (h1 : i < (l.length : Int)) : rd_T122 l i ∈ l := by
  unfold rd_T122
  rw [List.getD_eq_getElem?_getD, List.getElem?_eq_getElem (by omega)]
  exact List.getElem_mem (by omega)
theorem laws_szLabelS_eq (l : List S122) (hl : WfL l) (left : Int) (h0 : 0 ≤ left) (h1 : left ≤ 1048576) (k : Nat) (hk : 1048577 < k) :
    laws_szLabelS.f k l left = some (left' (szL l) left) := by
  unfold laws_szLabelS.f szL
  rw [left_of_wrap (n := l.length) hl.1 h0 h1 (fun t => laws_szLabelS.l0 k l t 0), ← left_add _ _ _ h0]
  by_cases hz : left' l.length left < 0
  · rw [if_pos hz, if_pos hz]
  · rw [if_neg hz, if_neg hz]
    have hle := left_ge h0 hz
    rw [budget_loop l (by omega) szLab z122 0 (fun k t i => laws_szLabelS.l0 k l t i) ?_ ?_ l.length k 0 _ (by omega) (by omega) (by omega) (left_le h1) (by omega)]
    · simp
    · intro k i left _ hi hi' hl0 hl1
      have hm := hl.2 _ (rdML_mem l i hi hi')
      simp only [laws_szLabelS.l0]
      rw [if_pos hi', if_pos hi, laws_szLabel_eq _ _ hm.1 hm.2 _ hl0 hl1]
      rfl
    · intro k left _
      simp only [laws_szLabelS.l0]
      rw [if_neg (by omega)]
theorem laws_toLabelS_eq (l : List S122) (hl : l.length ≤ 1048576) (k : Nat) (hk : 1048577 < k) : laws_toLabelS.f k l = some (labsOf l) := by
  unfold laws_toLabelS.f
  rw [if_pos (by omega), if_pos (by omega)]
  have h := fill_loop l (by omega) labOf z122 0 (fun k out i => laws_toLabelS.l0 k l out i) ?_ ?_ k z86 (by omega)
  · exact h
  · intro k i out _ hi hi' ho
    simp only [laws_toLabelS.l0]
    rw [if_pos hi', if_pos hi]
    simp only [laws_toLabel.f, Option.bind_some]
    rw [if_pos (by omega)]
    rfl
  · intro k out _
    simp only [laws_toLabelS.l0]
    rw [if_neg (by omega)]
theorem sized_labs (l : List S122) (h : szL l ≤ 1048576) : ∀ x ∈ labsOf l, x.f0.size ≤ 1048576 ∧ x.f1.size ≤ 1048576 := by
  intro x hx
  obtain ⟨y, hy, rfl⟩ := List.mem_map.1 hx
  have := sum_mem szLab l y hy
  have h1 : y.f0.size + y.f1.size ≤ (l.map szLab).sum := this
  unfold szL at h
  show y.f0.size ≤ _ ∧ y.f1.size ≤ _
  omega

/-! ### EqL -/
theorem laws_eqLabelS_refl (l : List S86) (hl : l.length ≤ 140737488351232) (k : Nat) (hk : l.length < k) : laws_eqLabelS.f k l l = some true := by
  unfold laws_eqLabelS.f
  rw [if_pos rfl]
  rw [all_loop (n := l.length) (by omega) 0 (fun _ => true) (fun k i => laws_eqLabelS.l0 k l l i) (some true) ?_ ?_ l.length k 0 (by omega) (by omega) (by omega) (by omega)]
  · rw [allFrom_true (fun _ => rfl)]; rfl
  · intro k i _ h0 h1
    simp only [laws_eqLabelS.l0]
    rw [if_pos h1, if_pos h0, if_pos h1]
    simp only [laws_eqLabel.f, Option.bind_some, if_true]
  · intro k _
    simp only [laws_eqLabelS.l0]
    rw [if_neg (by omega)]

/-! ### NameOk -/
def nameB (s : ByteArray) (i : Int) : Bool := !(decide (bt s i < 97) || decide (bt s i > 122))
def inB (x a b : Int) : Bool := decide (a ≤ x) && decide (x ≤ b)
def nameOk (s : ByteArray) : Bool := allFrom (nameB s) s.size 0 && inB s.size 1 8
theorem spec_l1In_eq (x a b : Int) : spec_l1In.f x a b = some (inB x a b) := by
  unfold spec_l1In.f inB
  by_cases h : x ≥ a
  · rw [if_pos h, decide_eq_true (show a ≤ x from h)]; simp
  · rw [if_neg h, decide_eq_false (show ¬ a ≤ x from h)]; simp
theorem impl_in_eq (x a b : Int) : impl_in.f x a b = some (inB x a b) := by
  unfold impl_in.f inB
  by_cases h : x ≥ a
  · rw [if_pos h, decide_eq_true (show a ≤ x from h)]; simp
  · rw [if_neg h, decide_eq_false (show ¬ a ≤ x from h)]; simp
theorem name_round (s : ByteArray) (i : Int) (x : Option Bool) :
    (if (bt s i) < 97 then (some false) else (if (bt s i) > 122 then (some false) else x)) = if nameB s i = true then x else some false := by
  by_cases h1 : bt s i < 97
  · simp [nameB, h1]
  by_cases h2 : bt s i > 122
  · simp [nameB, h2]
  rw [if_neg h1, if_neg h2, if_pos (by simp [nameB, h1, h2])]
theorem spec_NameOk_eq (s : ByteArray) (hn : s.size ≤ 140737488351232) (k : Nat) (hk : s.size < k) : spec_NameOk.f k s = some (nameOk s) := by
  unfold spec_NameOk.f nameOk
  rw [all_loop hn 0 (nameB s) (fun k i => spec_NameOk.l0 k s i) (some (inB s.size 1 8)) ?_ ?_ s.size k 0 (by omega) (by omega) (by omega) (by omega)]
  · by_cases h : allFrom (nameB s) s.size 0 = true
    · simp [h]
    · simp [h]
  · intro k i _ h0 h1
    simp only [spec_NameOk.l0]
    rw [if_pos h1, if_pos h0, name_round]
  · intro k _
    simp only [spec_NameOk.l0]
    rw [if_neg (by omega), spec_l1In_eq]; rfl
theorem impl_NameOk_eq (s : ByteArray) (hn : s.size ≤ 140737488351232) (k : Nat) (hk : s.size < k) : impl_NameOk.f k s = some (nameOk s) := by
  unfold impl_NameOk.f nameOk
  rw [impl_in_eq]
  simp only [Option.bind_some]
  by_cases h12 : inB s.size 1 8 = true
  · rw [if_pos h12, h12]
    rw [all_loop hn 0 (nameB s) (fun k i => impl_NameOk.l0 k s i) (some true) ?_ ?_ s.size k 0 (by omega) (by omega) (by omega) (by omega)]
    · by_cases h : allFrom (nameB s) s.size 0 = true
      · simp [h]
      · simp [h]
    · intro k i _ h0 h1
      simp only [impl_NameOk.l0]
      rw [if_pos h1, if_pos h0, name_round]
    · intro k _
      simp only [impl_NameOk.l0]
      rw [if_neg (by omega)]
  · rw [if_neg h12]; simp [h12]

/-! ### PlainOk -/
def plainB (s : ByteArray) (i : Int) : Bool := !(decide (bt s i < 32) || decide (bt s i > 126) || decide (bt s i = 34) || decide (bt s i = 92))
def plainOk (s : ByteArray) : Bool := allFrom (plainB s) s.size 0 && decide ((s.size : Int) ≤ 12)
theorem plain_round (s : ByteArray) (i : Int) (x : Option Bool) :
    (if (bt s i) < 32 then (some false) else (if (bt s i) > 126 then (some false) else (if (bt s i) = 34 then (some false) else (if (bt s i) = 92 then (some false) else x)))) = if plainB s i = true then x else some false := by
  by_cases h1 : bt s i < 32
  · simp [plainB, h1]
  by_cases h2 : bt s i > 126
  · simp [plainB, h2]
  by_cases h3 : bt s i = 34
  · simp [plainB, h3]
  by_cases h4 : bt s i = 92
  · simp [plainB, h4]
  rw [if_neg h1, if_neg h2, if_neg h3, if_neg h4, if_pos (by simp [plainB, h1, h2, h3, h4])]
theorem spec_PlainOk_eq (s : ByteArray) (hn : s.size ≤ 140737488351232) (k : Nat) (hk : s.size < k) : spec_PlainOk.f k s = some (plainOk s) := by
  unfold spec_PlainOk.f plainOk
  rw [all_loop hn 0 (plainB s) (fun k i => spec_PlainOk.l0 k s i) (some (decide ((s.size : Int) ≤ 12))) ?_ ?_ s.size k 0 (by omega) (by omega) (by omega) (by omega)]
  · by_cases h : allFrom (plainB s) s.size 0 = true
    · simp [h]
    · simp [h]
  · intro k i _ h0 h1
    simp only [spec_PlainOk.l0]
    rw [if_pos h1, if_pos h0, plain_round]
  · intro k _
    simp only [spec_PlainOk.l0]
    rw [if_neg (by omega)]
theorem impl_PlainOk_eq (s : ByteArray) (hn : s.size ≤ 140737488351232) (k : Nat) (hk : s.size < k) : impl_PlainOk.f k s = some (plainOk s) := by
  unfold impl_PlainOk.f plainOk
  by_cases h12 : (s.size : Int) > 12
  · rw [if_pos h12, decide_eq_false (by omega)]; simp
  · rw [if_neg h12, decide_eq_true (by omega)]
    rw [all_loop hn 0 (plainB s) (fun k i => impl_PlainOk.l0 k s i) (some true) ?_ ?_ s.size k 0 (by omega) (by omega) (by omega) (by omega)]
    · by_cases h : allFrom (plainB s) s.size 0 = true
      · simp [h]
      · simp [h]
    · intro k i _ h0 h1
      simp only [impl_PlainOk.l0]
      rw [if_pos h1, if_pos h0, plain_round]
    · intro k _
      simp only [impl_PlainOk.l0]
      rw [if_neg (by omega)]

/-! ### LabelOk -/
def labelOk (a b : ByteArray) : Bool := nameOk a && plainOk b
theorem spec_LabelOk_eq (a b : ByteArray) (ha : a.size ≤ 140737488351232) (hb : b.size ≤ 140737488351232) (k : Nat) (hk : a.size < k) (hk' : b.size < k) : spec_LabelOk.f k a b = some (labelOk a b) := by
  unfold spec_LabelOk.f labelOk
  rw [spec_NameOk_eq a ha k hk, spec_PlainOk_eq b hb k hk']
  cases nameOk a <;> simp
theorem impl_LabelOk_eq (a b : ByteArray) (ha : a.size ≤ 140737488351232) (hb : b.size ≤ 140737488351232) (k : Nat) (hk : a.size < k) (hk' : b.size < k) : impl_LabelOk.f k a b = some (labelOk a b) := by
  unfold impl_LabelOk.f labelOk
  rw [impl_NameOk_eq a ha k hk, impl_PlainOk_eq b hb k hk']
  cases nameOk a <;> simp

/-! ### SetOk -/
/-- Each label's sizes. -/
def SizedL (M : Nat) (l : List S86) : Prop := ∀ x ∈ l, x.f0.size ≤ M ∧ x.f1.size ≤ M
theorem rd_mem (l : List S86) (i : Int) (h0 : 0 ≤ i) (h1 : i < (l.length : Int)) : rd_T86 l i ∈ l := by
  unfold rd_T86
  rw [List.getD_eq_getElem?_getD, List.getElem?_eq_getElem (by omega)]
  exact List.getElem_mem (by omega)
def setB (l : List S86) (i : Int) : Bool := labelOk (rd_T86 l i).f0 (rd_T86 l i).f1 && (decide (i = 0) || Op.bytesLess (rd_T86 l (i - 1)).f0.toList (rd_T86 l i).f0.toList)
def setOk (l : List S86) : Bool := allFrom (setB l) l.length 0 && decide (l.length ≤ 4)
theorem spec_SetOk_eq (l : List S86) (hl : l.length ≤ 1048576) (M : Nat) (hM : M ≤ 1048576) (hs : SizedL M l) (k : Nat) (hk : l.length + M + 1 < k) : spec_SetOk.f k l = some (setOk l) := by
  unfold spec_SetOk.f setOk
  rw [all_loop (n := l.length) (by omega) (M + 1) (setB l) (fun k i => spec_SetOk.l0 k l i) (some (decide ((l.length : Int) ≤ 4))) ?_ ?_ l.length k 0 (by omega) (by omega) (by omega) (by omega)]
  · have e : decide ((l.length : Int) ≤ 4) = decide (l.length ≤ 4) := by rw [decide_eq_decide]; omega
    rw [e]
    cases allFrom (setB l) l.length 0 <;> simp
  · intro k i hk h0 h1
    have hm := hs _ (rd_mem l i h0 h1)
    simp only [spec_SetOk.l0]
    rw [if_pos h1, if_pos h0, spec_LabelOk_eq _ _ (by omega) (by omega) _ (by omega) (by omega)]
    simp only [Option.bind_some]
    by_cases hL : labelOk (rd_T86 l i).f0 (rd_T86 l i).f1 = true
    · rw [if_pos hL]
      by_cases hz : i = 0
      · have e : setB l i = true := by unfold setB; rw [hL, decide_eq_true hz]; rfl
        rw [if_neg (by omega), if_pos e]
      · have e : setB l i = Op.bytesLess (rd_T86 l (i - 1)).f0.toList (rd_T86 l i).f0.toList := by simp [setB, hL, hz]
        rw [if_pos (by omega), w64 (x := i - 1) (by omega) (by omega), if_pos (by omega), if_pos (by omega), e]
        simp only [spec_Less.f, Option.bind_some]
    · have e : setB l i = false := by simp [setB, hL]
      rw [if_neg hL, if_neg (by simp [e])]
  · intro k _
    simp only [spec_SetOk.l0]
    rw [if_neg (by omega)]
theorem impl_SetOk_eq (l : List S86) (hl : l.length ≤ 1048576) (M : Nat) (hM : M ≤ 1048576) (hs : SizedL M l) (k : Nat) (hk : l.length + M + 1 < k) : impl_SetOk.f k l = some (setOk l) := by
  unfold impl_SetOk.f setOk
  have key := all_loop (n := l.length) (by omega) (M + 1) (fun i => decide (i < 4) && setB l i) (fun k i => impl_SetOk.l0 k l l l.length i) (some true) ?_ ?_ l.length k 0 (by omega) (by omega) (by omega) (by omega)
  · rw [key, bool_of_if]
    congr 1
    by_cases h4 : l.length ≤ 4
    · rw [decide_eq_true h4, Bool.and_true]
      exact allFrom_congr _ _ (fun j h0 h1 => by rw [decide_eq_true (by omega)]; rfl)
    · rw [decide_eq_false h4, Bool.and_false, Bool.eq_false_iff]
      intro h
      have := (allFrom_iff _ _).mp h 4 (by omega) (by omega)
      simp at this
  · intro k i hk h0 h1
    have hm := hs _ (rd_mem l i h0 h1)
    simp only [impl_SetOk.l0]
    rw [if_pos h1, if_pos h0, if_pos h1]
    by_cases h4 : i ≥ 4
    · rw [if_pos h4, decide_eq_false (by omega)]; simp
    · rw [if_neg h4, decide_eq_true (show i < 4 by omega), impl_LabelOk_eq _ _ (by omega) (by omega) _ (by omega) (by omega)]
      simp only [Option.bind_some, Bool.true_and]
      by_cases hL : labelOk (rd_T86 l i).f0 (rd_T86 l i).f1 = true
      · rw [if_pos hL]
        by_cases hz : i = 0
        · have e : setB l i = true := by unfold setB; rw [hL, decide_eq_true hz]; rfl
          rw [if_neg (by omega), if_pos e]
        · have e : setB l i = Op.bytesLess (rd_T86 l (i - 1)).f0.toList (rd_T86 l i).f0.toList := by simp [setB, hL, hz]
          rw [if_pos (by omega), w64 (x := i - 1) (by omega) (by omega), if_pos (by omega), if_pos (by omega), e]
      · have e : setB l i = false := by simp [setB, hL]
        rw [if_neg hL, if_neg (by simp [e])]
  · intro k _
    simp only [impl_SetOk.l0]
    rw [if_neg (by omega)]

/-! ### SortSet -/
theorem pos_append (x : S86) (q s : List S86) : ∀ j, j ≤ q.length → spec_SortSet.pos x (q ++ s) j = spec_SortSet.pos x q j
  | 0, _ => rfl
  | j + 1, h => by
    have e : rd_T86 (q ++ s) (j : Int) = rd_T86 q (j : Int) := by
      unfold rd_T86
      rw [Int.toNat_natCast, List.getD_eq_getElem?_getD, List.getD_eq_getElem?_getD, List.getElem?_append_left (by omega)]
    show (if Op.bytesLess x.f0.toList (rd_T86 (q ++ s) (j : Int)).f0.toList = true then spec_SortSet.pos x (q ++ s) j else j + 1) = (if Op.bytesLess x.f0.toList (rd_T86 q (j : Int)).f0.toList = true then spec_SortSet.pos x q j else j + 1)
    rw [e, pos_append x q s j (by omega)]
theorem swp_at {α : Type} [Inhabited α] (q : List α) (y x : α) (s : List α) : Go.Sort.swp (q ++ y :: x :: s).toArray (q.length + 1) q.length = (q ++ x :: y :: s).toArray := by
  have e0 : (q ++ y :: x :: s).toArray[q.length]! = y := by simp
  have e1 : (q ++ y :: x :: s).toArray[q.length + 1]! = x := by
    rw [getElem!_pos _ _ (by simp)]; simp [List.getElem_append_right]
  unfold Go.Sort.swp
  rw [e0, e1]
  simp only [List.setIfInBounds_toArray]
  congr 1
  rw [List.set_append_right _ _ (by omega), List.set_append_right _ _ (by omega)]
  simp [show q.length + 1 - q.length = 1 by omega]
theorem insInner_at (x : S86) : ∀ (j : Nat) (q s : List S86), q.length = j → Go.Sort.insInner ltL 0 j (q ++ x :: s).toArray = (q.take (spec_SortSet.pos x q j) ++ x :: (q.drop (spec_SortSet.pos x q j) ++ s)).toArray
  | 0, q, s, h => by
    obtain rfl : q = [] := List.length_eq_zero_iff.mp h
    rfl
  | j + 1, q, s, h => by
    obtain ⟨q', y, rfl⟩ : ∃ q' y, q = q' ++ [y] := ⟨q.dropLast, q.getLast (by intro e; rw [e] at h; simp at h), (List.dropLast_concat_getLast _).symm⟩
    have hq : q'.length = j := by simpa using h
    subst hq
    have e0 : ((q' ++ [y]) ++ x :: s).toArray = (q' ++ y :: x :: s).toArray := by simp
    have e1 : (q' ++ y :: x :: s).toArray[q'.length]! = y := by simp
    have e2 : (q' ++ y :: x :: s).toArray[q'.length + 1]! = x := by
      rw [getElem!_pos _ _ (by simp)]; simp [List.getElem_append_right]
    have er : rd_T86 (q' ++ [y]) (q'.length : Int) = y := by
      unfold rd_T86
      rw [Int.toNat_natCast, List.getD_eq_getElem?_getD]
      simp
    have ep : spec_SortSet.pos x (q' ++ [y]) (q'.length + 1) = if Op.bytesLess x.f0.toList y.f0.toList = true then spec_SortSet.pos x q' q'.length else q'.length + 1 := by
      show (if Op.bytesLess x.f0.toList (rd_T86 (q' ++ [y]) (q'.length : Int)).f0.toList = true then spec_SortSet.pos x (q' ++ [y]) q'.length else q'.length + 1) = _
      rw [er, pos_append x q' [y] _ (Nat.le_refl _)]
    rw [ep, e0]
    show (if (decide (q'.length + 1 > 0) && ltL (q' ++ y :: x :: s).toArray[q'.length + 1]! (q' ++ y :: x :: s).toArray[q'.length]!) = true then Go.Sort.insInner ltL 0 q'.length (Go.Sort.swp (q' ++ y :: x :: s).toArray (q'.length + 1) q'.length) else (q' ++ y :: x :: s).toArray) = _
    rw [e1, e2, decide_eq_true (by omega), Bool.true_and, swp_at]
    show (if Op.bytesLess x.f0.toList y.f0.toList = true then _ else _) = _
    have hp := spec_SortSet.pos_le x q' q'.length
    by_cases hb : Op.bytesLess x.f0.toList y.f0.toList = true
    · rw [if_pos hb, if_pos hb, insInner_at x q'.length q' (y :: s) rfl, List.take_append_of_le_length hp, List.drop_append_of_le_length hp]
      simp
    · rw [if_neg hb, if_neg hb]
      have e3 : (q' ++ [y]).take (q'.length + 1) = q' ++ [y] := List.take_of_length_le (by simp)
      have e4 : (q' ++ [y]).drop (q'.length + 1) = [] := List.drop_eq_nil_of_le (by simp)
      rw [e3, e4]
      simp
theorem insOuter_at : ∀ (rest g : List S86) (n : Nat), g.length + rest.length = n → Go.Sort.insOuter ltL 0 n g.length (g ++ rest).toArray = (spec_SortSet.go rest g).toArray
  | [], g, n, h => by
    rw [Go.Sort.insOuter, if_neg (by simp at h; omega), List.append_nil]; rfl
  | x :: r, g, n, h => by
    have e : g.take (spec_SortSet.pos x g g.length) ++ x :: (g.drop (spec_SortSet.pos x g g.length) ++ r) = spec_SortSet.ins x g ++ r := by simp [spec_SortSet.ins]
    have hl := spec_SortSet.ins_len x g
    rw [Go.Sort.insOuter, if_pos (by simp at h; omega), insInner_at x g.length g r rfl, e, ← hl]
    exact insOuter_at r (spec_SortSet.ins x g) n (by simp at h; omega)
theorem isort_eq (l : List S86) : Go.Sort.insertionSort ltL l.toArray 0 l.length = (spec_SortSet.go l []).toArray := by
  cases l with
  | nil => rw [Go.Sort.insertionSort, Go.Sort.insOuter, if_neg (by simp)]; rfl
  | cons x r => exact insOuter_at r [x] _ (by simp; omega)
theorem ins_perm (x : S86) (out : List S86) : (spec_SortSet.ins x out).Perm (x :: out) := by
  unfold spec_SortSet.ins
  rw [List.append_assoc]
  have h := List.perm_middle (a := x) (l₁ := out.take (spec_SortSet.pos x out out.length)) (l₂ := out.drop (spec_SortSet.pos x out out.length))
  rwa [List.take_append_drop] at h
theorem go_perm : ∀ (l out : List S86), (spec_SortSet.go l out).Perm (l ++ out)
  | [], out => List.Perm.refl _
  | x :: r, out => (go_perm r (spec_SortSet.ins x out)).trans (((ins_perm x out).append_left r).trans List.perm_middle)
def sorted5 (l : List S86) : List S86 := spec_SortSet.go (l.take 5) []
theorem sorted5_perm (l : List S86) : (sorted5 l).Perm (l.take 5) := by have h := go_perm (l.take 5) []; rwa [List.append_nil] at h
theorem sorted5_len (l : List S86) : (sorted5 l).length = min 5 l.length := by rw [(sorted5_perm l).length_eq, List.length_take]
theorem sorted5_sized {M : Nat} {l : List S86} (hs : SizedL M l) : SizedL M (sorted5 l) := fun x hx => hs x (List.mem_of_mem_take ((sorted5_perm l).mem_iff.mp hx))
def sortSet (l : List S86) : List S86 × Bool := if setOk (sorted5 l) = true then (sorted5 l, true) else ([], false)
theorem setOk_long (l : List S86) (h : 4 < l.length) : setOk l = false := by
  unfold setOk
  rw [decide_eq_false (by omega), Bool.and_false]
theorem sortSet_len (l : List S86) : (sortSet l).1.length ≤ 4 := by
  unfold sortSet
  split
  · rename_i h
    have : ¬ 4 < (sorted5 l).length := fun q => by rw [setOk_long _ q] at h; cases h
    simpa using this
  · simp
theorem spec_SortSet_eq (l : List S86) (hl : l.length ≤ 1048576) (M : Nat) (hM : M ≤ 1048576) (hs : SizedL M l) (k : Nat) (hk : l.length + M + 1 < k) : spec_SortSet.f k l = some (sortSet l) := by
  unfold spec_SortSet.f sortSet
  have hlen := sorted5_len l
  have h := spec_SetOk_eq (sorted5 l) (by omega) M hM (sorted5_sized hs) k (by omega)
  unfold sorted5 at h
  rw [h]
  simp only [Option.bind_some]
  show (if setOk (sorted5 l) = true then some (sorted5 l, true) else some ([], false)) = _
  split <;> rfl
theorem impl_SortSet_eq (l : List S86) (hl : l.length ≤ 1048576) (M : Nat) (hM : M ≤ 1048576) (hs : SizedL M l) (k : Nat) (hk : l.length + M + 1 < k) : impl_SortSet.f k l = some (sortSet l) := by
  unfold impl_SortSet.f
  rw [if_pos (by omega)]
  by_cases h20 : l.length < 20
  · rw [if_pos h20, isort_eq]
    show ((impl_SetOk.f k (spec_SortSet.go l [])).bind fun t => if t = true then some (spec_SortSet.go l [], true) else some ([], false)) = _
    have hp : (spec_SortSet.go l []).Perm l := by have h := go_perm l []; rwa [List.append_nil] at h
    have hz : SizedL M (spec_SortSet.go l []) := fun x hx => hs x (hp.mem_iff.mp hx)
    rw [impl_SetOk_eq _ (by rw [hp.length_eq]; exact hl) M hM hz k (by rw [hp.length_eq]; exact hk)]
    simp only [Option.bind_some]
    unfold sortSet
    by_cases h4 : l.length ≤ 5
    · have e : sorted5 l = spec_SortSet.go l [] := by unfold sorted5; rw [List.take_of_length_le h4]
      rw [e]
      split <;> rfl
    · rw [setOk_long _ (by rw [hp.length_eq]; omega), setOk_long _ (by rw [sorted5_len]; omega)]
      rfl
  · rw [if_neg h20, if_pos]
    · unfold sortSet
      rw [setOk_long _ (by rw [sorted5_len]; omega)]
      rfl
    · intro d hd
      rw [impl_SetOk_eq d (by rw [hd.length_eq]; exact hl) M hM (fun x hx => hs x (hd.mem_iff.mp hx)) k (by rw [hd.length_eq]; exact hk), setOk_long _ (by rw [hd.length_eq]; omega)]

/-! ### MarkText -/
def markLoop : Nat → Int → ByteArray → ByteArray
  | 0, _, s => (⟨#[109]⟩ : ByteArray) ++ s
  | d + 1, x, s => if x > 0 then markLoop d (Int.tdiv x 10) ((strOfNums [(wrap64 (48 + (Int.tmod x 10))) % 256]) ++ s) else (⟨#[109]⟩ : ByteArray) ++ s
def markOf (n : Int) : ByteArray := if n ≤ 0 then (⟨#[109, 48]⟩ : ByteArray) else markLoop 20 n (⟨#[]⟩ : ByteArray)
theorem strOf1 (c : Int) : (strOfNums [c]).size = 1 := by simp [strOfNums, ByteArray.size]
theorem markLoop_eq (d : Nat) : ∀ (k : Nat) (x : Int) (s : ByteArray), 0 ≤ x → x < 10 ^ d → x < 9223372036854775807 → s.size + d ≤ 1000 → d < k → laws_markText.l0 k x s = some (markLoop d x s) := by
  induction d with
  | zero =>
    intro k x s h0 h1 _ hs hk
    obtain ⟨k, rfl⟩ : ∃ m, k = m + 1 := ⟨k - 1, by omega⟩
    simp only [laws_markText.l0, markLoop]
    rw [if_neg (by omega), if_pos (by omega)]
  | succ d ih =>
    intro k x s h0 h1 h2 hs hk
    obtain ⟨k, rfl⟩ : ∃ m, k = m + 1 := ⟨k - 1, by omega⟩
    simp only [laws_markText.l0, markLoop]
    by_cases hx : x > 0
    · rw [if_pos hx, if_pos hx]
      simp only [Option.bind_some]
      have e : Int.tdiv x 10 = x / 10 := Int.tdiv_eq_ediv_of_nonneg h0
      have h10 : (10 : Int) ^ (d + 1) = 10 ^ d * 10 := Int.pow_succ 10 d
      rw [if_pos (by rw [strOf1]; omega), w64 (x := Int.tdiv x 10) (by omega) (by omega)]
      refine ih k _ _ (by omega) (by rw [e]; omega) (by omega) ?_ (by omega)
      rw [ByteArray.size_append, strOf1]
      omega
    · rw [if_neg hx, if_neg hx, if_pos (by omega)]
theorem markText_eq (n : Int) (hn : n ≤ 4611686018427387904) (k : Nat) (hk : 21 < k) : laws_markText.f k n = some (markOf n) := by
  unfold laws_markText.f markOf
  by_cases h : n ≤ 0
  · rw [if_pos h, if_pos h]
  · rw [if_neg h, if_neg h]
    exact markLoop_eq 20 k n _ (by omega) (by omega) (by omega) (by decide) (by omega)

/-! ### MarkL -/
def mkLab (b : S86) (x : Int) : S86 := ⟨markOf x, markOf (x + 1)⟩
theorem laws_markLabelS_eq (l : List S86) (hl : l.length ≤ 140737488351232) (x : Int) (h0 : 0 ≤ x) (hx : x + 2 * l.length ≤ 4611686018427387902) (k : Nat) (hk : 22 + l.length < k) :
    laws_markLabelS.f k l x = some (x + 2 * l.length, markAll mkLab (fun _ => 2) l x) := by
  have ht : total (fun _ : S86 => 2) l = 2 * l.length := total_const 2 l
  have h := mark_loop mkLab (fun _ => 2) 22 4611686018427387902 (fun _ => True) (fun k l x i => laws_markLabelS.l0 k l x i) ?_ ?_ l [] k x h0 (by rw [ht]; omega) hl (fun _ _ => trivial) (by omega)
  · rw [ht] at h
    simpa [laws_markLabelS.f] using h
  · intro k pre b rest x hk h0 hB hn _
    simp only [laws_markLabelS.l0]
    have hlen : (pre ++ b :: rest).length = pre.length + rest.length + 1 := by simp; omega
    rw [if_pos (by rw [hlen]; omega), markText_eq x (by omega) k (by omega)]
    simp only [Option.bind_some]
    rw [if_pos (by omega), w64 (x := x + 1) (by omega) (by omega), markText_eq (x + 1) (by omega) k (by omega)]
    simp only [Option.bind_some, Int.toNat_natCast, set_pre, List.set_set]
    rw [w64 (x := x + 1 + 1) (by omega) (by omega), w64 (x := (pre.length : Int) + 1) (by omega) (by omega)]
    have hr : (rd_T86 (pre ++ ⟨markOf x, (rd_T86 (pre ++ b :: rest) pre.length).f1⟩ :: rest) pre.length).f0 = markOf x := by
      unfold rd_T86
      simp only [Int.toNat_natCast, getD_pre]
    rw [hr]
    have e : x + 1 + 1 = x + ((2 : Nat) : Int) := by omega
    rw [e]
    rfl
  · intro k l x _
    simp only [laws_markLabelS.l0]
    rw [if_neg (by omega)]
theorem laws_heldLabelS_eq (l : List S86) (hl : l.length ≤ 140737488351232) (x : Int) (h0 : 0 ≤ x) (hx : x + 2 * l.length ≤ 4611686018427387902) (k : Nat) (hk : 22 + l.length < k) :
    laws_heldLabelS.f k (markAll mkLab (fun _ => 2) l x) x = some (x + 2 * l.length) := by
  have ht : total (fun _ : S86 => 2) l = 2 * l.length := total_const 2 l
  have h := held_loop mkLab (fun _ => 2) 22 4611686018427387902 (fun _ => True) (fun k l x i => laws_heldLabelS.l0 k l x i) ?_ ?_ l [] k x h0 (by rw [ht]; omega) hl (fun _ _ => trivial) (by omega)
  · rw [ht] at h
    simpa [laws_heldLabelS.f] using h
  · intro k pre b rest x hk h0 hB hn _
    have hlen : (pre ++ mkLab b x :: rest).length = pre.length + rest.length + 1 := by simp; omega
    have hr : rd_T86 (pre ++ mkLab b x :: rest) pre.length = mkLab b x := by
      unfold rd_T86
      simp only [Int.toNat_natCast, getD_pre]
    simp only [laws_heldLabelS.l0]
    rw [if_pos (by rw [hlen]; omega), if_pos (by omega), markText_eq x (by omega) k (by omega), hr]
    simp only [Option.bind_some, mkLab, if_true]
    rw [w64 (x := x + 1) (by omega) (by omega), markText_eq (x + 1) (by omega) k (by omega)]
    simp only [Option.bind_some, if_true]
    rw [w64 (x := x + 1 + 1) (by omega) (by omega), w64 (x := (pre.length : Int) + 1) (by omega) (by omega)]
    have e : x + 1 + 1 = x + ((2 : Nat) : Int) := by omega
    rw [e]
    rfl
  · intro k l x _
    simp only [laws_heldLabelS.l0]
    rw [if_neg (by omega)]

theorem FnExactSortSet (a : List S122) (ha : WfL a) : ∃ k, laws_FnExactSortSet.f k a = some true := by
  obtain ⟨m, hm⟩ : ∃ m : Nat, 16777216 < m := ⟨16777217, by omega⟩
  have hm1 : 16777216 < m + 1 := by omega
  have hm2 : 16777216 < m + 2 := by omega
  have hm11 : 16777216 < m + 1 + 1 := by omega
  have hm3 : 16777216 < m + 3 := by omega
  refine ⟨m + 3, ?_⟩
  unfold laws_FnExactSortSet.f
  obtain ⟨left1, hleft1⟩ : ∃ x, x = left' (szL a) 1048576 := ⟨_, rfl⟩
  rw [laws_szLabelS_eq a ha _ (by omega) (by omega) _ (by omega), ← hleft1]
  simp only [Option.bind_some]
  by_cases hz1 : left1 < 0
  · rw [if_pos hz1]
  rw [if_neg hz1]
  have hb1 : ((szL a : Nat) : Int) ≤ 1048576 := left_ge (by omega) (by rw [← hleft1]; exact hz1)
  have hc1 : left1 ≤ 1048576 := by rw [hleft1]; exact left_le (by omega)
  clear hleft1
  have la : a.length ≤ 1048576 := by have := len_le_szL a; omega
  have qa : (labsOf a).length ≤ 1048576 := by rw [labsOf_length]; exact la
  have za := sized_labs a (by omega)
  have ta : ∀ k, 16777216 < k → laws_toLabelS.f k a = some (labsOf a) := fun k hk => laws_toLabelS_eq a la k (by omega)
  have ea : ∀ k, 16777216 < k → laws_eqLabelS.f k (labsOf a) (labsOf a) = some true := fun k hk => laws_eqLabelS_refl _ (by omega) k (by omega)
  have pl : ((sortSet (labsOf a)).1).length ≤ 4 := sortSet_len _
  have sF : ∀ k, 16777216 < k → spec_SortSet.f k (labsOf a) = some (sortSet (labsOf a)) := fun k hk => spec_SortSet_eq _ (by omega) 1048576 (by omega) za k (by omega)
  have iF : ∀ k, 16777216 < k → impl_SortSet.f k (labsOf a) = some (sortSet (labsOf a)) := fun k hk => impl_SortSet_eq _ (by omega) 1048576 (by omega) za k (by omega)
  have eF : ∀ k, 16777216 < k → laws_eqLabelS.f k ((sortSet (labsOf a)).1) ((sortSet (labsOf a)).1) = some true := fun k hk => laws_eqLabelS_refl _ (by omega) k (by omega)
  have m1 : ∀ k, 16777216 < k → laws_markLabelS.f k (labsOf a) (1) = some (1 + 2 * ((labsOf a).length : Int), markAll mkLab (fun _ => 2) (labsOf a) (1)) := fun k hk => laws_markLabelS_eq _ (by omega) _ (by omega) (by omega) k (by omega)
  have m3 : ∀ k, 16777216 < k → laws_markLabelS.f k ((sortSet (labsOf a)).1) (1) = some (1 + 2 * (((sortSet (labsOf a)).1).length : Int), markAll mkLab (fun _ => 2) ((sortSet (labsOf a)).1) (1)) := fun k hk => laws_markLabelS_eq _ (by omega) _ (by omega) (by omega) k (by omega)
  have d3 : ∀ k, 16777216 < k → laws_heldLabelS.f k (markAll mkLab (fun _ => 2) ((sortSet (labsOf a)).1) (1)) (1) = some (1 + 2 * (((sortSet (labsOf a)).1).length : Int)) := fun k hk => laws_heldLabelS_eq _ (by omega) _ (by omega) (by omega) k (by omega)
  have n1 : ((1 + 2 * ((labsOf a).length : Int) : Int) < 0) = False := eq_false (by omega)
  have n2 : ((1 + 2 * (((sortSet (labsOf a)).1).length : Int) : Int) < 0) = False := eq_false (by omega)
  simp only [pl, sF, iF, eF, m1, m3, d3, n1, n2, ta, ea, hm, hm1, hm2, hm3, hm11, Option.bind_some, bne_self_eq_false, beq_self_eq_true, if_true, Bool.false_eq_true, if_false, Bool.not_true, Bool.not_false, laws_FnExactSortSet.j0, laws_FnExactSortSet.j1, laws_FnExactSortSet.j2]

end Go.Proofs.Ytgindocfjoalhab.Pure
