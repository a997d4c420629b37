/- The program's ParseSet returns what the reference's ParseSet returns, for all arguments, in rows of its own; no conditions. -/
import Derived.Test.YtglefglknlcojacPFnExactParseSetx8
import Derived.Test.YtglefglknlcojacM0
import Derived.Test.YtglefglknlcojacM1
import Derived.Test.YtglefglknlcojacM2
import Derived.Test.YtglefglknlcojacM3
import Derived.Test.YtglefglknlcojacM4
import Derived.Test.YtglefglknlcojacM5
set_option linter.unusedVariables false
set_option linter.unusedSimpArgs false
namespace Go.Proofs.Ytglefglknlcojac.Pure
open Go.RowKit Go.Proofs.Ytglefglknlcojac.PFnExactParseSet Go.Proofs.YtglefglknlcojacW.PrintWords Go.Proofs.YtglefglknlcojacW.PrintLast Go.Proofs.Ytglefglknlcojac.M0 Go.Proofs.Ytglefglknlcojac.M1 Go.Proofs.Ytglefglknlcojac.M2 Go.Proofs.Ytglefglknlcojac.M3 Go.Proofs.Ytglefglknlcojac.M4 Go.Proofs.Ytglefglknlcojac.M5

/-! ### NameOk -/
def nameB (s : ByteArray) (i : Int) : Bool := !(decide (bt s i < 97) || decide (bt s i > 122))
def inB (x a b : Int) : Bool := decide (a ≤ x) && decide (x ≤ b)
def nameOk (s : ByteArray) : Bool := allFrom (nameB s) s.size 0 && inB s.size 1 8
theorem spec_l1In_eq (x a b : Int) : spec_l1In.f x a b = some (inB x a b) := by
  unfold spec_l1In.f inB
  by_cases h : x ≥ a
  · rw [if_pos h, decide_eq_true (show a ≤ x from h)]; simp
  · rw [if_neg h, decide_eq_false (show ¬ a ≤ x from h)]; simp
theorem impl_in_eq (x a b : Int) : impl_in.f x a b = some (inB x a b) := by
  unfold impl_in.f inB
  by_cases h : x ≥ a
  · rw [if_pos h, decide_eq_true (show a ≤ x from h)]; simp
  · rw [if_neg h, decide_eq_false (show ¬ a ≤ x from h)]; simp
theorem name_round (s : ByteArray) (i : Int) (x : Option Bool) :
    (if (bt s i) < 97 then (some false) else (if (bt s i) > 122 then (some false) else x)) = if nameB s i = true then x else some false := by
  by_cases h1 : bt s i < 97
  · simp [nameB, h1]
  by_cases h2 : bt s i > 122
  · simp [nameB, h2]
  rw [if_neg h1, if_neg h2, if_pos (by simp [nameB, h1, h2])]
theorem spec_NameOk_eq (s : ByteArray) (hn : s.size ≤ 140737488351232) (k : Nat) (hk : s.size < k) : spec_NameOk.f k s = some (nameOk s) := by
  unfold spec_NameOk.f nameOk
  rw [all_loop hn 0 (nameB s) (fun k i => spec_NameOk.l0 k s i) (some (inB s.size 1 8)) ?_ ?_ s.size k 0 (by omega) (by omega) (by omega) (by omega)]
  · by_cases h : allFrom (nameB s) s.size 0 = true
    · simp [h]
    · simp [h]
  · intro k i _ h0 h1
    simp only [spec_NameOk.l0]
    rw [if_pos h1, if_pos h0, name_round]
  · intro k _
    simp only [spec_NameOk.l0]
    rw [if_neg (by omega), spec_l1In_eq]; rfl
theorem impl_NameOk_eq (s : ByteArray) (hn : s.size ≤ 140737488351232) (k : Nat) (hk : s.size < k) : impl_NameOk.f k s = some (nameOk s) := by
  unfold impl_NameOk.f nameOk
  rw [impl_in_eq]
  simp only [Option.bind_some]
  by_cases h12 : inB s.size 1 8 = true
  · rw [if_pos h12, h12]
    rw [all_loop hn 0 (nameB s) (fun k i => impl_NameOk.l0 k s i) (some true) ?_ ?_ s.size k 0 (by omega) (by omega) (by omega) (by omega)]
    · by_cases h : allFrom (nameB s) s.size 0 = true
      · simp [h]
      · simp [h]
    · intro k i _ h0 h1
      simp only [impl_NameOk.l0]
      rw [if_pos h1, if_pos h0, name_round]
    · intro k _
      simp only [impl_NameOk.l0]
      rw [if_neg (by omega)]
  · rw [if_neg h12]; simp [h12]

/-! ### PlainOk -/
def plainB (s : ByteArray) (i : Int) : Bool := !(decide (bt s i < 32) || decide (bt s i > 126) || decide (bt s i = 34) || decide (bt s i = 92))
def plainOk (s : ByteArray) : Bool := allFrom (plainB s) s.size 0 && decide ((s.size : Int) ≤ 12)
theorem plain_round (s : ByteArray) (i : Int) (x : Option Bool) :
    (if (bt s i) < 32 then (some false) else (if (bt s i) > 126 then (some false) else (if (bt s i) = 34 then (some false) else (if (bt s i) = 92 then (some false) else x)))) = if plainB s i = true then x else some false := by
  by_cases h1 : bt s i < 32
  · simp [plainB, h1]
  by_cases h2 : bt s i > 126
  · simp [plainB, h2]
  by_cases h3 : bt s i = 34
  · simp [plainB, h3]
  by_cases h4 : bt s i = 92
  · simp [plainB, h4]
  rw [if_neg h1, if_neg h2, if_neg h3, if_neg h4, if_pos (by simp [plainB, h1, h2, h3, h4])]
theorem spec_PlainOk_eq (s : ByteArray) (hn : s.size ≤ 140737488351232) (k : Nat) (hk : s.size < k) : spec_PlainOk.f k s = some (plainOk s) := by
  unfold spec_PlainOk.f plainOk
  rw [all_loop hn 0 (plainB s) (fun k i => spec_PlainOk.l0 k s i) (some (decide ((s.size : Int) ≤ 12))) ?_ ?_ s.size k 0 (by omega) (by omega) (by omega) (by omega)]
  · by_cases h : allFrom (plainB s) s.size 0 = true
    · simp [h]
    · simp [h]
  · intro k i _ h0 h1
    simp only [spec_PlainOk.l0]
    rw [if_pos h1, if_pos h0, plain_round]
  · intro k _
    simp only [spec_PlainOk.l0]
    rw [if_neg (by omega)]
theorem impl_PlainOk_eq (s : ByteArray) (hn : s.size ≤ 140737488351232) (k : Nat) (hk : s.size < k) : impl_PlainOk.f k s = some (plainOk s) := by
  unfold impl_PlainOk.f plainOk
  by_cases h12 : (s.size : Int) > 12
  · rw [if_pos h12, decide_eq_false (by omega)]; simp
  · rw [if_neg h12, decide_eq_true (by omega)]
    rw [all_loop hn 0 (plainB s) (fun k i => impl_PlainOk.l0 k s i) (some true) ?_ ?_ s.size k 0 (by omega) (by omega) (by omega) (by omega)]
    · by_cases h : allFrom (plainB s) s.size 0 = true
      · simp [h]
      · simp [h]
    · intro k i _ h0 h1
      simp only [impl_PlainOk.l0]
      rw [if_pos h1, if_pos h0, plain_round]
    · intro k _
      simp only [impl_PlainOk.l0]
      rw [if_neg (by omega)]

/-! ### LabelOk -/
def labelOk (a b : ByteArray) : Bool := nameOk a && plainOk b
theorem spec_LabelOk_eq (a b : ByteArray) (ha : a.size ≤ 140737488351232) (hb : b.size ≤ 140737488351232) (k : Nat) (hk : a.size < k) (hk' : b.size < k) : spec_LabelOk.f k a b = some (labelOk a b) := by
  unfold spec_LabelOk.f labelOk
  rw [spec_NameOk_eq a ha k hk, spec_PlainOk_eq b hb k hk']
  cases nameOk a <;> simp
theorem impl_LabelOk_eq (a b : ByteArray) (ha : a.size ≤ 140737488351232) (hb : b.size ≤ 140737488351232) (k : Nat) (hk : a.size < k) (hk' : b.size < k) : impl_LabelOk.f k a b = some (labelOk a b) := by
  unfold impl_LabelOk.f labelOk
  rw [impl_NameOk_eq a ha k hk, impl_PlainOk_eq b hb k hk']
  cases nameOk a <;> simp

/-! ### SetOk -/
/-- Each label's sizes. -/
def SizedL (M : Nat) (l : List S105) : Prop := ∀ x ∈ l, x.f0.size ≤ M ∧ x.f1.size ≤ M
theorem rd_mem (l : List S105) (i : Int) (h0 : 0 ≤ i) (h1 : i < (l.length : Int)) : rd_T105 l i ∈ l := by
  unfold rd_T105
  rw [List.getD_eq_getElem?_getD, List.getElem?_eq_getElem (by omega)]
  exact List.getElem_mem (by omega)
def setB (l : List S105) (i : Int) : Bool := labelOk (rd_T105 l i).f0 (rd_T105 l i).f1 && (decide (i = 0) || Op.bytesLess (rd_T105 l (i - 1)).f0.toList (rd_T105 l i).f0.toList)
def setOk (l : List S105) : Bool := allFrom (setB l) l.length 0 && decide (l.length ≤ 4)
theorem spec_SetOk_eq (l : List S105) (hl : l.length ≤ 1048576) (M : Nat) (hM : M ≤ 1048576) (hs : SizedL M l) (k : Nat) (hk : l.length + M + 1 < k) : spec_SetOk.f k l = some (setOk l) := by
  unfold spec_SetOk.f setOk
  rw [all_loop (n := l.length) (by omega) (M + 1) (setB l) (fun k i => spec_SetOk.l0 k l i) (some (decide ((l.length : Int) ≤ 4))) ?_ ?_ l.length k 0 (by omega) (by omega) (by omega) (by omega)]
  · have e : decide ((l.length : Int) ≤ 4) = decide (l.length ≤ 4) := by rw [decide_eq_decide]; omega
    rw [e]
    cases allFrom (setB l) l.length 0 <;> simp
  · intro k i hk h0 h1
    have hm := hs _ (rd_mem l i h0 h1)
    simp only [spec_SetOk.l0]
    rw [if_pos h1, if_pos h0, spec_LabelOk_eq _ _ (by omega) (by omega) _ (by omega) (by omega)]
    simp only [Option.bind_some]
    by_cases hL : labelOk (rd_T105 l i).f0 (rd_T105 l i).f1 = true
    · rw [if_pos hL]
      by_cases hz : i = 0
      · have e : setB l i = true := by unfold setB; rw [hL, decide_eq_true hz]; rfl
        rw [if_neg (by omega), if_pos e]
      · have e : setB l i = Op.bytesLess (rd_T105 l (i - 1)).f0.toList (rd_T105 l i).f0.toList := by simp [setB, hL, hz]
        rw [if_pos (by omega), w64 (x := i - 1) (by omega) (by omega), if_pos (by omega), if_pos (by omega), e]
        simp only [spec_Less.f, Option.bind_some]
    · have e : setB l i = false := by simp [setB, hL]
      rw [if_neg hL, if_neg (by simp [e])]
  · intro k _
    simp only [spec_SetOk.l0]
    rw [if_neg (by omega)]
theorem impl_SetOk_eq (l : List S105) (hl : l.length ≤ 1048576) (M : Nat) (hM : M ≤ 1048576) (hs : SizedL M l) (k : Nat) (hk : l.length + M + 1 < k) : impl_SetOk.f k l = some (setOk l) := by
  unfold impl_SetOk.f setOk
  have key := all_loop (n := l.length) (by omega) (M + 1) (fun i => decide (i < 4) && setB l i) (fun k i => impl_SetOk.l0 k l l l.length i) (some true) ?_ ?_ l.length k 0 (by omega) (by omega) (by omega) (by omega)
  · rw [key, bool_of_if]
    congr 1
    by_cases h4 : l.length ≤ 4
    · rw [decide_eq_true h4, Bool.and_true]
      exact allFrom_congr _ _ (fun j h0 h1 => by rw [decide_eq_true (by omega)]; rfl)
    · rw [decide_eq_false h4, Bool.and_false, Bool.eq_false_iff]
      intro h
      have := (allFrom_iff _ _).mp h 4 (by omega) (by omega)
      simp at this
  · intro k i hk h0 h1
    have hm := hs _ (rd_mem l i h0 h1)
    simp only [impl_SetOk.l0]
    rw [if_pos h1, if_pos h0, if_pos h1]
    by_cases h4 : i ≥ 4
    · rw [if_pos h4, decide_eq_false (by omega)]; simp
    · rw [if_neg h4, decide_eq_true (show i < 4 by omega), impl_LabelOk_eq _ _ (by omega) (by omega) _ (by omega) (by omega)]
      simp only [Option.bind_some, Bool.true_and]
      by_cases hL : labelOk (rd_T105 l i).f0 (rd_T105 l i).f1 = true
      · rw [if_pos hL]
        by_cases hz : i = 0
        · have e : setB l i = true := by unfold setB; rw [hL, decide_eq_true hz]; rfl
          rw [if_neg (by omega), if_pos e]
        · have e : setB l i = Op.bytesLess (rd_T105 l (i - 1)).f0.toList (rd_T105 l i).f0.toList := by simp [setB, hL, hz]
          rw [if_pos (by omega), w64 (x := i - 1) (by omega) (by omega), if_pos (by omega), if_pos (by omega), e]
      · have e : setB l i = false := by simp [setB, hL]
        rw [if_neg hL, if_neg (by simp [e])]
  · intro k _
    simp only [impl_SetOk.l0]
    rw [if_neg (by omega)]

/-! ### SetTextS -/
def txt (s : ByteArray) (x : S105) : ByteArray := (((s ++ x.f0) ++ (⟨#[61, 34]⟩ : ByteArray)) ++ x.f1) ++ (⟨#[34]⟩ : ByteArray)
def restB : List S105 → ByteArray → ByteArray
  | [], s => s ++ (⟨#[125]⟩ : ByteArray)
  | x :: l, s => restB l (txt (s ++ (⟨#[44, 32]⟩ : ByteArray)) x)
def textOf : List S105 → ByteArray
  | [] => (⟨#[123]⟩ : ByteArray) ++ (⟨#[125]⟩ : ByteArray)
  | x :: l => restB l (txt (⟨#[123]⟩ : ByteArray) x)
def setText (l : List S105) : ByteArray := if setOk l = true then textOf l else (⟨#[]⟩ : ByteArray)
theorem setOk_le (l : List S105) (h : setOk l = true) : l.length ≤ 4 := by
  unfold setOk at h
  rw [Bool.and_eq_true] at h
  exact of_decide_eq_true h.2
theorem sz2 : ∀ a : UInt8, ∀ b : UInt8, (⟨#[a, b]⟩ : ByteArray).size = 2 := fun _ _ => rfl
theorem sz1 : ∀ a : UInt8, (⟨#[a]⟩ : ByteArray).size = 1 := fun _ => rfl
theorem spec_SetText_l (l : List S105) (hl : l.length ≤ 4) (hs : SizedL 1048576 l) (d : Nat) : ∀ (k : Nat) (s : ByteArray) (i : Int), 0 < i → i + d = (l.length : Int) → s.size + d * 4194304 ≤ 1099511627776 → d < k →
    spec_SetText.l0 k l s i = some (restB (l.drop i.toNat) s) := by
  induction d with
  | zero =>
    intro k s i h0 hd hsz hk
    obtain ⟨k, rfl⟩ : ∃ m, k = m + 1 := ⟨k - 1, by omega⟩
    simp only [spec_SetText.l0]
    rw [if_neg (by omega), if_pos (by omega), List.drop_eq_nil_of_le (by omega)]; rfl
  | succ d ih =>
    intro k s i h0 hd hsz hk
    obtain ⟨k, rfl⟩ : ∃ m, k = m + 1 := ⟨k - 1, by omega⟩
    have hm := hs _ (rd_mem l i (by omega) (by omega))
    simp only [spec_SetText.l0]
    rw [if_pos (by omega), if_pos (by omega), if_pos (by omega), if_pos (by omega)]
    rw [if_pos (by simp only [ByteArray.size_append, sz2, sz1]; omega), if_pos (by simp only [ByteArray.size_append, sz2, sz1]; omega), if_pos (by simp only [ByteArray.size_append, sz2, sz1]; omega), if_pos (by simp only [ByteArray.size_append, sz2, sz1]; omega)]
    rw [w64 (x := i + 1) (by omega) (by omega), drop_cons z105 l i (by omega) (by omega)]
    exact ih k _ (i + 1) (by omega) (by omega) (by simp only [ByteArray.size_append, sz2, sz1]; omega) (by omega)
theorem spec_SetText_eq (l : List S105) (hl : l.length ≤ 1048576) (hs : SizedL 1048576 l) (k : Nat) (hk : 4194304 < k) : spec_SetText.f k l = some (setText l) := by
  unfold spec_SetText.f setText
  rw [spec_SetOk_eq l hl 1048576 (by omega) hs k (by omega)]
  simp only [Option.bind_some]
  by_cases h : setOk l = true
  · rw [if_pos h, if_pos h]
    have h4 := setOk_le l h
    obtain ⟨k, rfl⟩ : ∃ m, k = m + 1 := ⟨k - 1, by omega⟩
    cases l with
    | nil =>
      simp only [spec_SetText.l0]
      rw [if_neg (by simp), if_pos (by decide)]; rfl
    | cons x l =>
      have hm := hs x List.mem_cons_self
      have e := spec_SetText_l (x :: l) h4 hs l.length k (txt (⟨#[123]⟩ : ByteArray) x) 1 (by omega) (by simp; omega) (by simp only [txt, ByteArray.size_append, sz2, sz1]; simp at h4; omega) (by simp at h4; omega)
      simp only [spec_SetText.l0]
      have hr : rd_T105 (x :: l) 0 = x := rfl
      rw [if_pos (by simp only [List.length_cons]; omega), if_neg (by omega), if_pos (by omega), hr]
      rw [if_pos (by simp only [ByteArray.size_append, sz2, sz1]; omega), if_pos (by simp only [ByteArray.size_append, sz2, sz1]; omega), if_pos (by simp only [ByteArray.size_append, sz2, sz1]; omega), if_pos (by simp only [ByteArray.size_append, sz2, sz1]; omega)]
      rw [w64 (x := 0 + 1) (by omega) (by omega)]
      exact e
  · rw [if_neg h, if_neg h]

/-! ### SetText -/
def txt1 (x : S105) : ByteArray := ((x.f0 ++ (⟨#[61, 34]⟩ : ByteArray)) ++ x.f1) ++ (⟨#[34]⟩ : ByteArray)
theorem impl_SetText_l (l : List S105) (hl : l.length ≤ 4) (hs : SizedL 1048576 l) (d : Nat) : ∀ (k : Nat) (out : List ByteArray) (i : Int), 0 ≤ i → i + d = (l.length : Int) → out.length ≤ i.toNat → d < k →
    impl_SetText.l0 k out l l.length i = impl_SetText.l0 (k - d) (out ++ (l.drop i.toNat).map txt1) l l.length l.length := by
  induction d with
  | zero =>
    intro k out i h0 hd ho hk
    obtain rfl : i = (l.length : Int) := by omega
    rw [List.drop_eq_nil_of_le (by omega)]
    simp
  | succ d ih =>
    intro k out i h0 hd ho hk
    obtain ⟨k, rfl⟩ : ∃ m, k = m + 1 := ⟨k - 1, by omega⟩
    have hm := hs _ (rd_mem l i (by omega) (by omega))
    rw [drop_cons z105 l i h0 (by omega), List.map_cons]
    have e : k + 1 - (d + 1) = k - d := by omega
    rw [e]
    conv => lhs; unfold impl_SetText.l0
    rw [if_pos (by omega), if_pos (by omega), if_pos (by omega)]
    rw [if_pos (by omega), if_pos (by simp only [ByteArray.size_append, sz2, sz1]; omega), if_pos (by simp only [ByteArray.size_append, sz2, sz1]; omega), if_pos (by omega)]
    rw [w64 (x := i + 1) (by omega) (by omega), ih k _ (i + 1) (by omega) (by omega) (by simp; omega) (by omega), List.append_assoc]
    rfl
theorem rest_list (l : List S105) : ∀ s : ByteArray, (restB l s).data.toList = s.data.toList ++ Lib.joinTail [44, 32] ((l.map txt1).map (·.data.toList)) ++ [125] := by
  induction l with
  | nil => intro s; simp [restB, Lib.joinTail]
  | cons x l ih =>
    intro s
    simp only [restB]
    rw [ih]
    simp [txt, txt1, Lib.joinTail]
theorem text_join (l : List S105) : ((⟨#[123]⟩ : ByteArray) ++ Foreign.joinBytes (l.map txt1) (⟨#[44, 32]⟩ : ByteArray)) ++ (⟨#[125]⟩ : ByteArray) = textOf l := by
  have hinj : ∀ a b : ByteArray, a.data.toList = b.data.toList → a = b := by
    intro a b h
    cases a
    cases b
    congr
    simpa using h
  apply hinj
  cases l with
  | nil => simp [textOf, Foreign.joinBytes, Lib.join_nil]
  | cons x l =>
    simp only [textOf]
    rw [rest_list]
    simp only [Foreign.joinBytes, List.map_cons, Lib.join_cons]
    simp [txt, txt1]
theorem sum_txt (l : List S105) (hs : SizedL 1048576 l) : (Lib.joinTail [44, 32] ((l.map txt1).map (·.data.toList))).length ≤ l.length * 4194304 := by
  induction l with
  | nil => simp [Lib.joinTail]
  | cons x l ih =>
    have hm := hs x List.mem_cons_self
    have := ih (fun y hy => hs y (List.mem_cons_of_mem _ hy))
    have e : (txt1 x).data.toList.length = x.f0.size + 2 + x.f1.size + 1 := by
      have : (txt1 x).data.toList.length = (txt1 x).size := by rw [Array.length_toList]; rfl
      rw [this]
      simp only [txt1, ByteArray.size_append, sz2, sz1]
    have e2 : (Lib.joinTail [44, 32] (((x :: l).map txt1).map (·.data.toList))).length = 2 + (txt1 x).data.toList.length + (Lib.joinTail [44, 32] ((l.map txt1).map (·.data.toList))).length := by
      simp [Lib.joinTail]
      omega
    rw [e2, e, List.length_cons, Nat.succ_mul]
    omega
theorem join_some (l : List S105) (hl : l.length ≤ 4) (hs : SizedL 1048576 l) : strings_Join.f (l.map txt1) (⟨#[44, 32]⟩ : ByteArray) = some (Foreign.joinBytes (l.map txt1) (⟨#[44, 32]⟩ : ByteArray)) ∧ (Foreign.joinBytes (l.map txt1) (⟨#[44, 32]⟩ : ByteArray)).size ≤ 1099511627776 := by
  have hlen : (Lib.join ((l.map txt1).map (·.data.toList)) (⟨#[44, 32]⟩ : ByteArray).data.toList).length ≤ 1073741824 := by
    cases l with
    | nil => simp [Lib.join_nil]
    | cons x l =>
      have hm := hs x List.mem_cons_self
      have h2 := sum_txt l (fun y hy => hs y (List.mem_cons_of_mem _ hy))
      have e : (txt1 x).data.toList.length = x.f0.size + 2 + x.f1.size + 1 := by
        have : (txt1 x).data.toList.length = (txt1 x).size := by rw [Array.length_toList]; rfl
        rw [this]
        simp only [txt1, ByteArray.size_append, sz2, sz1]
      simp only [List.map_cons, Lib.join_cons, List.length_append]
      have h3 : (Lib.joinTail (⟨#[44, 32]⟩ : ByteArray).data.toList ((l.map txt1).map (·.data.toList))).length ≤ l.length * 4194304 := h2
      rw [e]
      simp at hl
      omega
  constructor
  · unfold strings_Join.f Foreign.joinOf
    rw [if_pos ⟨by simp; omega, by omega⟩]
  · have : (Foreign.joinBytes (l.map txt1) (⟨#[44, 32]⟩ : ByteArray)).size = (Lib.join ((l.map txt1).map (·.data.toList)) (⟨#[44, 32]⟩ : ByteArray).data.toList).length := by
      simp [Foreign.joinBytes, ByteArray.size]
    omega
theorem impl_SetText_eq (l : List S105) (hl : l.length ≤ 1048576) (hs : SizedL 1048576 l) (k : Nat) (hk : 4194304 < k) : impl_SetText.f k l = some (setText l) := by
  unfold impl_SetText.f setText
  rw [impl_SetOk_eq l hl 1048576 (by omega) hs k (by omega)]
  simp only [Option.bind_some]
  by_cases h : setOk l = true
  · rw [if_pos h, if_pos h]
    have h4 := setOk_le l h
    obtain ⟨j1, j2⟩ := join_some l h4 hs
    rw [impl_SetText_l l h4 hs l.length k [] 0 (by omega) (by omega) (by simp) (by omega)]
    obtain ⟨m, hm⟩ : ∃ m, k - l.length = m + 1 := ⟨k - l.length - 1, by omega⟩
    rw [hm]
    simp only [impl_SetText.l0]
    rw [if_neg (by omega)]
    have e : ([] : List ByteArray) ++ (l.drop (0 : Int).toNat).map txt1 = l.map txt1 := by simp
    rw [e, j1]
    simp only [Option.bind_some]
    rw [if_pos (by omega), if_pos (by simp only [ByteArray.size_append, sz1]; omega), text_join]
  · rw [if_neg h, if_neg h]

/-! ### ParseCut -/
theorem dlen0 (s : ByteArray) : s.data.toList.length = s.size := by rw [Array.length_toList]; rfl
theorem index_sep (c : UInt8) (cs b : List UInt8) : ∀ a : List UInt8, c ∉ a → Go.Lib.index (a ++ (c :: cs ++ b)) (c :: cs) = a.length
  | [], _ => by
    have e : (c :: cs).isPrefixOf (c :: cs ++ b) = true := by rw [List.isPrefixOf_iff_prefix]; exact List.prefix_append _ _
    simp only [List.nil_append, List.cons_append] at e ⊢
    simp only [Go.Lib.index]
    rw [if_pos e]; rfl
  | x :: a, h => by
    have hx : c ≠ x := fun e => h (by rw [e]; exact List.mem_cons_self)
    have ih := index_sep c cs b a (fun hh => h (List.mem_cons_of_mem _ hh))
    simp only [List.cons_append] at ih ⊢
    simp only [Go.Lib.index]
    have e : (c :: cs).isPrefixOf (x :: (a ++ c :: (cs ++ b))) = false := by simp [List.isPrefixOf, hx]
    rw [if_neg (by rw [e]; decide), ih]
    have e2 : (((a.length : Nat) : Int) == -1) = false := by rw [beq_eq_false_iff_ne]; omega
    rw [if_neg (by rw [e2]; decide)]
    simp
theorem cut_sep (c : UInt8) (cs a b : List UInt8) (h : c ∉ a) : Go.Lib.cut (a ++ (c :: cs ++ b)) (c :: cs) = (a, b, true) := by
  unfold Go.Lib.cut
  rw [index_sep c cs b a h, if_pos (by omega)]
  simp
theorem cutOf_sep (c : UInt8) (cs a b : List UInt8) (h : c ∉ a) (hs : (a ++ (c :: cs ++ b)).length < 4294967281) :
    strings_Cut.f (⟨(a ++ (c :: cs ++ b)).toArray⟩ : ByteArray) (⟨(c :: cs).toArray⟩ : ByteArray) = some (⟨a.toArray⟩, ⟨b.toArray⟩, true) := by
  unfold strings_Cut.f Foreign.cutOf
  have e : (⟨(a ++ (c :: cs ++ b)).toArray⟩ : ByteArray).size = (a ++ (c :: cs ++ b)).length := by rw [← Array.size]; simp [ByteArray.size]
  rw [if_pos (by rw [e]; exact hs)]
  have e1 : (⟨(a ++ (c :: cs ++ b)).toArray⟩ : ByteArray).data.toList = a ++ (c :: cs ++ b) := rfl
  have e2 : (⟨(c :: cs).toArray⟩ : ByteArray).data.toList = c :: cs := rfl
  rw [e1, e2, cut_sep c cs a b h]
/-- The text as a list. -/
def seg (x : S105) : List UInt8 := x.f0.data.toList ++ ([61, 34] ++ (x.f1.data.toList ++ [34]))
def tailT : List S105 → List UInt8
  | [] => [125]
  | x :: l => [44, 32] ++ (seg x ++ tailT l)
theorem restB_list : ∀ (l : List S105) (s : ByteArray), (restB l s).data.toList = s.data.toList ++ tailT l
  | [], s => by simp [restB, tailT]
  | x :: l, s => by
    simp only [restB, tailT]
    rw [restB_list l]
    simp [txt, seg]
theorem textOf_list : ∀ l : List S105, (textOf l).data.toList = match l with
    | [] => [123, 125]
    | x :: l => 123 :: (seg x ++ tailT l)
  | [] => rfl
  | x :: l => by
    simp only [textOf]
    rw [restB_list]
    simp [txt, seg]
theorem size_list (l : List UInt8) : (⟨l.toArray⟩ : ByteArray).size = l.length := by rw [← dlen0]
theorem ext_take (s : ByteArray) (n : Nat) : (s.extract 0 n).data.toList = s.data.toList.take n := by
  simp [ByteArray.data_extract]
theorem ext_drop (s : ByteArray) (n : Nat) : (s.extract n s.size).data.toList = s.data.toList.drop n := by
  have e : s.size = s.data.toList.length := (dlen0 s).symm
  rw [e]
  simp [ByteArray.data_extract]
  exact List.take_of_length_le (by rw [List.length_drop, dlen0]; omega)
theorem ba_data {a b : ByteArray} (h : a.data.toList = b.data.toList) : a = b := by
  cases a; cases b
  simp at h
  rw [h]
theorem has_eq (s p : ByteArray) : stringslite_HasPrefix.f s p = some (decide (p.data.toList <+: s.data.toList)) := by
  unfold stringslite_HasPrefix.f
  by_cases h : (s.size : Int) ≥ (p.size : Int)
  · rw [if_pos h, if_pos (by omega), if_pos (by omega)]
    congr 1
    rw [Bool.eq_iff_iff, beq_iff_eq, decide_eq_true_iff]
    have e : ((p.size : Int) : Int).toNat = p.size := by omega
    rw [e]
    constructor
    · intro hh
      have := ba_ext hh
      rw [← this, ext_take]
      exact List.take_prefix _ _
    · intro hh
      have : s.extract 0 p.size = p := ba_data (by rw [ext_take]; rw [← dlen0]; exact (List.prefix_iff_eq_take.1 hh).symm)
      rw [this]
  · rw [if_neg h]
    congr 1
    symm
    apply decide_eq_false
    intro hh
    have := hh.length_le
    rw [dlen0, dlen0] at this
    omega
theorem cp_eq (s p : ByteArray) : strings_CutPrefix.f s p = some (if p.data.toList <+: s.data.toList then s.extract p.size s.size else s, decide (p.data.toList <+: s.data.toList)) := by
  unfold strings_CutPrefix.f stringslite_CutPrefix.f
  rw [has_eq]
  simp only [Option.bind_some]
  by_cases h : p.data.toList <+: s.data.toList
  · have := h.length_le
    rw [dlen0, dlen0] at this
    rw [decide_eq_true h, if_pos rfl, if_pos (by omega), if_pos (by omega), if_pos h]
    simp only [Option.bind_some]
    have e : ((p.size : Int) : Int).toNat = p.size := by omega
    rw [e]
  · rw [decide_eq_false h, if_neg (by decide), if_neg h]
    rfl
theorem cp_hit (p b : List UInt8) : strings_CutPrefix.f (⟨(p ++ b).toArray⟩ : ByteArray) (⟨p.toArray⟩ : ByteArray) = some (⟨b.toArray⟩, true) := by
  rw [cp_eq]
  have h : (⟨p.toArray⟩ : ByteArray).data.toList <+: (⟨(p ++ b).toArray⟩ : ByteArray).data.toList := List.prefix_append p b
  rw [if_pos h, decide_eq_true h]
  have e : (⟨(p ++ b).toArray⟩ : ByteArray).extract (⟨p.toArray⟩ : ByteArray).size (⟨(p ++ b).toArray⟩ : ByteArray).size = ⟨b.toArray⟩ := ba_data (by
    rw [ext_drop, size_list]
    show (p ++ b).drop p.length = b
    simp)
  rw [e]
theorem cp_miss (c d : UInt8) (b : List UInt8) (h : c ≠ d) : strings_CutPrefix.f (⟨(d :: b).toArray⟩ : ByteArray) (⟨#[c]⟩ : ByteArray) = some (⟨(d :: b).toArray⟩, false) := by
  rw [cp_eq]
  have h' : ¬ ((⟨#[c]⟩ : ByteArray).data.toList <+: (⟨(d :: b).toArray⟩ : ByteArray).data.toList) := by
    show ¬ ([c] <+: d :: b)
    intro hh
    obtain ⟨t, ht⟩ := hh
    simp at ht
    exact h ht.1
  rw [if_neg h', decide_eq_false h']

/-! ### ParseImpl -/
theorem mem_bt (s : ByteArray) (c : UInt8) (h : c ∈ s.data.toList) : ∃ i : Int, 0 ≤ i ∧ i < (s.size : Int) ∧ bt s i = (c.toNat : Int) := by
  obtain ⟨j, hj, e⟩ := List.mem_iff_getElem.1 h
  have hj' : j < s.size := by rw [dlen0] at hj; exact hj
  refine ⟨(j : Int), by omega, by omega, ?_⟩
  unfold bt
  rw [dif_pos (by simpa using hj')]
  simp [ByteArray.getElem_eq_getElem_data, ← e]
theorem name_no (s : ByteArray) (h : nameOk s = true) (c : UInt8) (hc : c ∈ s.data.toList) : 97 ≤ c.toNat ∧ c.toNat ≤ 122 := by
  obtain ⟨i, h0, h1, hb⟩ := mem_bt s c hc
  unfold nameOk at h
  rw [Bool.and_eq_true, allFrom_iff] at h
  have := h.1 i h0 (by omega)
  simp only [nameB, hb, Bool.not_eq_true', Bool.or_eq_false_iff, decide_eq_false_iff_not] at this
  omega
theorem plain_no (s : ByteArray) (h : plainOk s = true) (c : UInt8) (hc : c ∈ s.data.toList) : c.toNat ≠ 34 := by
  obtain ⟨i, h0, h1, hb⟩ := mem_bt s c hc
  unfold plainOk at h
  rw [Bool.and_eq_true, allFrom_iff] at h
  have := h.1 i h0 (by omega)
  simp only [plainB, hb, Bool.not_eq_true', Bool.or_eq_false_iff, decide_eq_false_iff_not] at this
  omega
theorem name_ne (s : ByteArray) (h : nameOk s = true) : ∃ c t, s.data.toList = c :: t := by
  unfold nameOk inB at h
  simp only [Bool.and_eq_true, decide_eq_true_iff] at h
  cases e : s.data.toList with
  | nil => have := dlen0 s; rw [e] at this; simp at this; omega
  | cons c t => exact ⟨c, t, rfl⟩
/-- One label's text is read off. -/
theorem j1_seg (x : S105) (more : List UInt8) (out : List S105) (hx : labelOk x.f0 x.f1 = true) (ho : out.length ≤ 4) (hs : (seg x ++ more).length < 4294967281) (k : Nat) :
    impl_setAt.j1 (k + 1) (⟨(seg x ++ more).toArray⟩ : ByteArray) out = impl_setAt.l0 k (⟨more.toArray⟩ : ByteArray) true (out ++ [x]) := by
  unfold labelOk at hx
  rw [Bool.and_eq_true] at hx
  have n1 : (61 : UInt8) ∉ x.f0.data.toList := fun hh => by
    have := name_no _ hx.1 _ hh
    simp at this
  have n2 : (34 : UInt8) ∉ x.f1.data.toList := fun hh => by
    have := plain_no _ hx.2 _ hh
    simp at this
  have e1 : seg x ++ more = x.f0.data.toList ++ (61 :: [34] ++ (x.f1.data.toList ++ (34 :: [] ++ more))) := by simp [seg]
  simp only [impl_setAt.j1]
  rw [e1] at hs ⊢
  have c1 := cutOf_sep 61 [34] x.f0.data.toList (x.f1.data.toList ++ (34 :: [] ++ more)) n1 hs
  have q1 : (⟨(61 :: [34]).toArray⟩ : ByteArray) = (⟨#[61, 34]⟩ : ByteArray) := rfl
  rw [q1] at c1
  rw [c1]
  simp only [Option.bind_some, if_true]
  have hs2 : (x.f1.data.toList ++ (34 :: [] ++ more)).length < 4294967281 := by simp at hs ⊢; omega
  have c2 := cutOf_sep 34 [] x.f1.data.toList more n2 hs2
  have q2 : (⟨(34 :: []).toArray⟩ : ByteArray) = (⟨#[34]⟩ : ByteArray) := rfl
  rw [q2] at c2
  rw [c2]
  simp only [Option.bind_some]
  rw [if_pos (by omega)]
theorem impl_tail : ∀ (l out : List S105) (k : Nat), (∀ x ∈ l, labelOk x.f0 x.f1 = true) → 0 < out.length → out.length + l.length ≤ 4 → (tailT l).length < 4294967281 → 2 * l.length + 1 < k →
    impl_setAt.l0 k (⟨(tailT l).toArray⟩ : ByteArray) true out = some (out ++ l, ⟨#[]⟩, true)
  | [], out, k, _, h0, h4, hs, hk => by
    obtain ⟨k, rfl⟩ : ∃ m, k = m + 1 := ⟨k - 1, by omega⟩
    simp only [impl_setAt.l0, if_true]
    have c := cp_hit [125] []
    have q : (⟨(([125] : List UInt8) ++ []).toArray⟩ : ByteArray) = (⟨(tailT ([] : List S105)).toArray⟩ : ByteArray) := rfl
    have q2 : (⟨([125] : List UInt8).toArray⟩ : ByteArray) = (⟨#[125]⟩ : ByteArray) := rfl
    rw [q, q2] at c
    rw [c]
    simp
  | x :: l, out, k, hl, h0, h4, hs, hk => by
    obtain ⟨k, rfl⟩ : ∃ m, k = m + 1 + 1 := ⟨k - 2, by omega⟩
    simp only [List.length_cons] at h4 hk
    simp only [impl_setAt.l0, if_true]
    have m1 := cp_miss 125 44 ([32] ++ (seg x ++ tailT l)) (by decide)
    have q1 : (44 :: ([32] ++ (seg x ++ tailT l))) = tailT (x :: l) := rfl
    rw [q1] at m1
    rw [m1]
    simp only [Option.bind_some, Bool.false_eq_true, if_false]
    rw [if_pos (by omega)]
    have c := cp_hit [44, 32] (seg x ++ tailT l)
    have q2 : (⟨([44, 32] : List UInt8).toArray⟩ : ByteArray) = (⟨#[44, 32]⟩ : ByteArray) := rfl
    have q3 : [44, 32] ++ (seg x ++ tailT l) = tailT (x :: l) := rfl
    rw [q2, q3] at c
    rw [c]
    simp only [Option.bind_some, if_true]
    have hs2 : (seg x ++ tailT l).length < 4294967281 := by
      have : (tailT (x :: l)).length = 2 + (seg x ++ tailT l).length := by rw [← q3]; simp; omega
      omega
    rw [if_neg (by omega), j1_seg x (tailT l) out (hl x List.mem_cons_self) (by omega) hs2]
    have ih := impl_tail l (out ++ [x]) k (fun y hy => hl y (List.mem_cons_of_mem _ hy)) (by simp) (by simp; omega) (by simp at hs2; omega) (by omega)
    rw [ih]
    simp

/-! ### ParseImpl2 -/
theorem labs_ok (l : List S105) (h : setOk l = true) : ∀ x ∈ l, labelOk x.f0 x.f1 = true := by
  intro x hx
  unfold setOk at h
  rw [Bool.and_eq_true, allFrom_iff] at h
  obtain ⟨j, hj, e⟩ := List.mem_iff_getElem.1 hx
  have := h.1 (j : Int) (by omega) (by omega)
  unfold setB at this
  rw [Bool.and_eq_true] at this
  have er : rd_T105 l (j : Int) = x := by
    unfold rd_T105
    rw [List.getD_eq_getElem?_getD, Int.toNat_natCast, List.getElem?_eq_getElem hj, e]; rfl
  rw [er] at this
  exact this.1
/-- What was written is found again by the program's parser. -/
theorem impl_setAt_text (l : List S105) (h : setOk l = true) (hs : (textOf l).size < 4294967281) (k : Nat) (hk : 2 * l.length + 3 < k) : impl_setAt.f k (textOf l) = some (l, ⟨#[]⟩, true) := by
  have hl := labs_ok l h
  have h4 := setOk_le l h
  have hsz : (textOf l).size = (textOf l).data.toList.length := (dlen0 _).symm
  unfold impl_setAt.f
  cases l with
  | nil =>
    obtain ⟨k, rfl⟩ : ∃ m, k = m + 1 := ⟨k - 1, by omega⟩
    have c := cp_hit [123] [125]
    have q : (⟨(([123] : List UInt8) ++ [125]).toArray⟩ : ByteArray) = textOf ([] : List S105) := rfl
    have q2 : (⟨([123] : List UInt8).toArray⟩ : ByteArray) = (⟨#[123]⟩ : ByteArray) := rfl
    rw [q, q2] at c
    rw [c]
    simp only [Option.bind_some, impl_setAt.l0, if_true]
    have d := cp_hit [125] []
    have q3 : (⟨(([125] : List UInt8) ++ []).toArray⟩ : ByteArray) = (⟨([125] : List UInt8).toArray⟩ : ByteArray) := rfl
    have q4 : (⟨([125] : List UInt8).toArray⟩ : ByteArray) = (⟨#[125]⟩ : ByteArray) := rfl
    rw [q3, q4] at d
    rw [q4, d]
    simp
  | cons x l =>
    obtain ⟨k, rfl⟩ : ∃ m, k = m + 1 + 1 := ⟨k - 2, by omega⟩
    have tl := textOf_list (x :: l)
    simp only at tl
    have q : textOf (x :: l) = (⟨([123] ++ (seg x ++ tailT l)).toArray⟩ : ByteArray) := ba_data (by rw [tl]; rfl)
    have hn : (seg x ++ tailT l).length < 4294967281 := by rw [hsz, tl] at hs; simp at hs ⊢; omega
    have c := cp_hit [123] (seg x ++ tailT l)
    have q2 : (⟨([123] : List UInt8).toArray⟩ : ByteArray) = (⟨#[123]⟩ : ByteArray) := rfl
    rw [q2] at c
    rw [q, c]
    simp only [Option.bind_some, impl_setAt.l0, if_true]
    have hx := hl x List.mem_cons_self
    have hx' := hx
    unfold labelOk at hx'
    rw [Bool.and_eq_true] at hx'
    obtain ⟨d, t, hd⟩ := name_ne _ hx'.1
    have hd2 := name_no _ hx'.1 d (by rw [hd]; exact List.mem_cons_self)
    have e1 : seg x ++ tailT l = d :: (t ++ ([61, 34] ++ (x.f1.data.toList ++ [34])) ++ tailT l) := by simp [seg, hd]
    have m1 := cp_miss 125 d (t ++ ([61, 34] ++ (x.f1.data.toList ++ [34])) ++ tailT l) (fun hh => by rw [← hh] at hd2; simp at hd2)
    rw [← e1] at m1
    rw [m1]
    simp only [Option.bind_some, Bool.false_eq_true, if_false, List.length_nil]
    rw [if_neg (by omega), j1_seg x (tailT l) [] hx (by simp) hn]
    simp only [List.length_cons] at h4 hk
    rw [impl_tail l ([] ++ [x]) k (fun y hy => hl y (List.mem_cons_of_mem _ hy)) (by simp) (by simp; omega) (by simp at hn; omega) (by omega)]
    simp

/-! ### ParseImpl3 -/
theorem cut_some (s sep : ByteArray) (hs : s.size < 4294967281) : ∃ a b f, strings_Cut.f s sep = some (a, b, f) ∧ a.size ≤ s.size ∧ b.size ≤ s.size := by
  unfold strings_Cut.f Foreign.cutOf
  rw [if_pos hs]
  refine ⟨_, _, _, rfl, ?_, ?_⟩
  · rw [size_list]
    unfold Go.Lib.cut
    split
    · simp only [List.length_take, dlen0]; omega
    · simp only [dlen0]; omega
  · rw [size_list]
    unfold Go.Lib.cut
    split
    · simp only [List.length_drop, dlen0]; omega
    · simp
theorem cp_some (s p : ByteArray) : ∃ a f, strings_CutPrefix.f s p = some (a, f) ∧ a.size ≤ s.size := by
  rw [cp_eq]
  refine ⟨_, _, rfl, ?_⟩
  split
  · have e := ext_drop s p.size
    have := congrArg List.length e
    rw [dlen0, List.length_drop, dlen0] at this
    omega
  · omega
def SetR (M : Nat) (r : List S105 × ByteArray × Bool) : Prop := r.1.length ≤ 6 ∧ SizedL M r.1
theorem sized_snoc (M : Nat) (out : List S105) (a b : ByteArray) (h : SizedL M out) (ha : a.size ≤ M) (hb : b.size ≤ M) : SizedL M (out ++ [(⟨a, b⟩ : S105)]) := by
  intro x hx
  rcases List.mem_append.1 hx with h1 | h1
  · exact h x h1
  · rw [List.mem_singleton.1 h1]; exact ⟨ha, hb⟩
theorem setAt_tot (M : Nat) (hM : M < 4294967281) (d : Nat) : ∀ (k : Nat) (s : ByteArray) (f : Bool) (out : List S105), s.size ≤ M → out.length + d = 5 → SizedL M out → 2 * d + 2 < k →
    ∃ r, impl_setAt.l0 k s f out = some r ∧ SetR M r := by
  induction d with
  | zero =>
    intro k s f out hs hd ho hk
    obtain ⟨k, rfl⟩ : ∃ m, k = m + 1 := ⟨k - 1, by omega⟩
    simp only [impl_setAt.l0]
    by_cases hf : f = true
    · rw [if_pos hf]
      obtain ⟨a, g, e, ha⟩ := cp_some s (⟨#[125]⟩ : ByteArray)
      rw [e]
      simp only [Option.bind_some]
      by_cases hg : g = true
      · rw [if_pos hg]; exact ⟨_, rfl, by show out.length ≤ 6; omega, ho⟩
      · rw [if_neg hg, if_pos (by omega)]
        obtain ⟨a2, g2, e2, ha2⟩ := cp_some s (⟨#[44, 32]⟩ : ByteArray)
        rw [e2]
        simp only [Option.bind_some]
        by_cases hg2 : g2 = true
        · rw [if_pos hg2, if_pos (by omega)]; exact ⟨_, rfl, by simp, fun x hx => by simp at hx⟩
        · rw [if_neg hg2]; exact ⟨_, rfl, by simp, fun x hx => by simp at hx⟩
    · rw [if_neg hf]; exact ⟨_, rfl, by simp, fun x hx => by simp at hx⟩
  | succ d ih =>
    intro k s f out hs hd ho hk
    obtain ⟨k, rfl⟩ : ∃ m, k = m + 1 + 1 := ⟨k - 2, by omega⟩
    have j1 : ∀ s' : ByteArray, s'.size ≤ M → ∃ r, impl_setAt.j1 (k + 1) s' out = some r ∧ SetR M r := by
      intro s' hs'
      simp only [impl_setAt.j1]
      obtain ⟨a, b, g, e, ha, hb⟩ := cut_some s' (⟨#[61, 34]⟩ : ByteArray) (by omega)
      rw [e]
      simp only [Option.bind_some]
      by_cases hg : g = true
      · rw [if_pos hg]
        obtain ⟨a2, b2, g2, e2, ha2, hb2⟩ := cut_some b (⟨#[34]⟩ : ByteArray) (by omega)
        rw [e2]
        simp only [Option.bind_some]
        rw [if_pos (by omega)]
        exact ih k _ _ _ (by omega) (by simp; omega) (sized_snoc M out a a2 ho (by omega) (by omega)) (by omega)
      · rw [if_neg hg, if_pos (by omega)]
        exact ih k _ _ _ (by omega) (by simp; omega) (sized_snoc M out a _ ho (by omega) (by show 0 ≤ M; omega)) (by omega)
    simp only [impl_setAt.l0]
    by_cases hf : f = true
    · rw [if_pos hf]
      obtain ⟨a, g, e, ha⟩ := cp_some s (⟨#[125]⟩ : ByteArray)
      rw [e]
      simp only [Option.bind_some]
      by_cases hg : g = true
      · rw [if_pos hg]; exact ⟨_, rfl, by show out.length ≤ 6; omega, ho⟩
      · rw [if_neg hg]
        by_cases h0 : (out.length : Int) > 0
        · rw [if_pos h0]
          obtain ⟨a2, g2, e2, ha2⟩ := cp_some s (⟨#[44, 32]⟩ : ByteArray)
          rw [e2]
          simp only [Option.bind_some]
          by_cases hg2 : g2 = true
          · rw [if_pos hg2]
            by_cases h4 : (out.length : Int) ≥ 4
            · rw [if_pos h4]; exact ⟨_, rfl, by simp, fun x hx => by simp at hx⟩
            · rw [if_neg h4]; exact j1 a2 (by omega)
          · rw [if_neg hg2]; exact ⟨_, rfl, by simp, fun x hx => by simp at hx⟩
        · rw [if_neg h0]; exact j1 s hs
    · rw [if_neg hf]; exact ⟨_, rfl, by simp, fun x hx => by simp at hx⟩
def Text (s : ByteArray) (l : List S105) : Prop := setOk l = true ∧ textOf l = s
theorem impl_ParseSet_hit (s : ByteArray) (hs : s.size ≤ 1048576) (l : List S105) (h : Text s l) (hsz : SizedL 1048576 l) (k : Nat) (hk : 4194304 < k) : impl_ParseSet.f k s = some (l, true) := by
  obtain ⟨h1, rfl⟩ := h
  have h4 := setOk_le l h1
  unfold impl_ParseSet.f
  rw [impl_setAt_text l h1 (by omega) k (by omega)]
  simp only [Option.bind_some, if_true]
  rw [impl_SetText_eq l (by omega) hsz k hk]
  simp only [Option.bind_some, setText]
  rw [if_pos h1, if_pos rfl]
theorem impl_ParseSet_miss (s : ByteArray) (hs : s.size ≤ 1048576) (h : ∀ l : List S105, ¬ Text s l) (k : Nat) (hk : 4194304 < k) : impl_ParseSet.f k s = some ([], false) := by
  unfold impl_ParseSet.f
  have key : ∃ r, impl_setAt.f k s = some r ∧ SetR 1048576 r ∧ (s.size = 0 → r.2.2 = false) := by
    unfold impl_setAt.f
    obtain ⟨a, f, e, ha⟩ := cp_some s (⟨#[123]⟩ : ByteArray)
    rw [e]
    simp only [Option.bind_some]
    obtain ⟨r, er, hr⟩ := setAt_tot 1048576 (by omega) 5 k a f [] (by omega) (by simp) (fun x hx => by simp at hx) (by omega)
    refine ⟨r, er, hr, fun h0 => ?_⟩
    have e' := cp_eq s (⟨#[123]⟩ : ByteArray)
    have hn : ¬ ((⟨#[123]⟩ : ByteArray).data.toList <+: s.data.toList) := by
      intro hh
      have := hh.length_le
      rw [dlen0 s] at this
      simp at this
      omega
    rw [if_neg hn, decide_eq_false hn, e] at e'
    have hf : f = false := by have := Option.some.inj e'; simp only [Prod.mk.injEq] at this; exact this.2
    subst hf
    obtain ⟨k, rfl⟩ : ∃ m, k = m + 1 := ⟨k - 1, by omega⟩
    simp only [impl_setAt.l0, Bool.false_eq_true, if_false] at er
    rw [← Option.some.inj er]
  obtain ⟨r, er, hr, h0⟩ := key
  rw [er]
  simp only [Option.bind_some]
  by_cases hb : r.2.2 = true
  · rw [if_pos hb, impl_SetText_eq r.1 (by have := hr.1; omega) hr.2 k hk]
    simp only [Option.bind_some]
    rw [if_neg]
    intro hh
    have he := ba_ext hh
    unfold setText at he
    by_cases ho : setOk r.1 = true
    · rw [if_pos ho] at he
      exact h r.1 ⟨ho, he⟩
    · rw [if_neg ho] at he
      have : s.size = 0 := by rw [← he]; rfl
      rw [h0 this] at hb
      cases hb
  · rw [if_neg hb]

/-! ### ParseSpec -/
def ff : List UInt8 → Nat → Option Nat
  | [], _ => none
  | x :: l, c => if x.toNat = c then some 0 else (ff l c).map (· + 1)
theorem ff_app (c : UInt8) (r : List UInt8) : ∀ a : List UInt8, c ∉ a → ff (a ++ c :: r) c.toNat = some a.length
  | [], _ => by simp [ff]
  | x :: a, h => by
    have hx : ¬ x.toNat = c.toNat := fun e => h (by
      have : x = c := by exact UInt8.toNat_inj.1 e
      rw [this]; exact List.mem_cons_self)
    simp only [List.cons_append, ff]
    rw [if_neg hx, ff_app c r a (fun hh => h (List.mem_cons_of_mem _ hh))]
    simp
theorem ff_lt : ∀ (l : List UInt8) (c p : Nat), ff l c = some p → p < l.length
  | [], c, p, h => by simp [ff] at h
  | x :: l, c, p, h => by
    simp only [ff] at h
    by_cases e : x.toNat = c
    · rw [if_pos e] at h; simp at h; subst h; simp
    · rw [if_neg e] at h
      cases hf : ff l c with
      | none => rw [hf] at h; simp at h
      | some q =>
        rw [hf] at h
        simp at h
        have := ff_lt l c q hf
        simp only [List.length_cons]
        omega
theorem bt_get' (s : ByteArray) (i : Nat) (h : i < s.size) : ∃ c, s.data.toList.drop i = c :: s.data.toList.drop (i + 1) ∧ bt s (i : Int) = (c.toNat : Int) := by
  have h' : i < s.data.toList.length := by rw [dlen0]; exact h
  refine ⟨s.data.toList[i], List.drop_eq_getElem_cons h', ?_⟩
  unfold bt
  rw [dif_pos (by simpa using h)]
  simp [ByteArray.getElem_eq_getElem_data]
def toAns (s : ByteArray) (at_ j : Nat) (o : Option Nat) : ByteArray × Int := match o with
  | some p => (s.extract at_ (j + p), ((j + p + 1 : Nat) : Int))
  | none => (⟨#[]⟩, -1)
theorem l3_loop (s : ByteArray) (hs : s.size ≤ 1048576) (at_ c : Nat) (d : Nat) : ∀ (k j : Nat), at_ ≤ j → j + d = s.size → d < k →
    spec_l3To.l0 k s (at_ : Int) (c : Int) (j : Int) = some (toAns s at_ j (ff (s.data.toList.drop j) c)) := by
  induction d with
  | zero =>
    intro k j h0 hd hk
    obtain ⟨k, rfl⟩ : ∃ m, k = m + 1 := ⟨k - 1, by omega⟩
    simp only [spec_l3To.l0]
    rw [if_neg (by omega), List.drop_eq_nil_of_le (by rw [dlen0]; omega)]
    rfl
  | succ d ih =>
    intro k j h0 hd hk
    obtain ⟨k, rfl⟩ : ∃ m, k = m + 1 := ⟨k - 1, by omega⟩
    obtain ⟨x, hx, hb⟩ := bt_get' s j (by omega)
    simp only [spec_l3To.l0]
    rw [if_pos (by omega), if_pos (by omega), hb, hx]
    simp only [ff]
    by_cases e : x.toNat = c
    · rw [if_pos (by omega), if_pos (by omega), if_pos (by omega), if_pos (by omega), if_pos e, w64 (by omega) (by omega)]
      simp only [toAns]
      rfl
    · rw [if_neg (by omega), if_neg e, w64 (by omega) (by omega)]
      have := ih k (j + 1) (by omega) (by omega) (by omega)
      have ej : ((j : Int) + 1) = ((j + 1 : Nat) : Int) := by omega
      rw [ej, this]
      cases ff (s.data.toList.drop (j + 1)) c with
      | none => rfl
      | some p =>
        simp only [toAns, Option.map_some]
        have e1 : j + 1 + p = j + (p + 1) := by omega
        rw [e1]
theorem l3_eq (s : ByteArray) (hs : s.size ≤ 1048576) (at_ c : Nat) (k : Nat) (hk : 1048577 < k) : spec_l3To.f k s (at_ : Int) (c : Int) = some (toAns s at_ at_ (ff (s.data.toList.drop at_) c)) := by
  unfold spec_l3To.f
  by_cases h : at_ ≤ s.size
  · exact l3_loop s hs at_ c (s.size - at_) k at_ (by omega) (by omega) (by omega)
  · obtain ⟨k, rfl⟩ : ∃ m, k = m + 1 := ⟨k - 1, by omega⟩
    simp only [spec_l3To.l0]
    rw [if_neg (by omega), List.drop_eq_nil_of_le (by rw [dlen0]; omega)]
    rfl
theorem l3_hit (s : ByteArray) (hs : s.size ≤ 1048576) (at_ : Nat) (c : UInt8) (a r : List UInt8) (h : s.data.toList.drop at_ = a ++ c :: r) (hc : c ∉ a) (k : Nat) (hk : 1048577 < k) :
    spec_l3To.f k s (at_ : Int) (c.toNat : Int) = some (⟨a.toArray⟩, ((at_ + a.length + 1 : Nat) : Int)) := by
  rw [l3_eq s hs at_ c.toNat k hk, h, ff_app c r a hc]
  simp only [toAns]
  have e : s.extract at_ (at_ + a.length) = ⟨a.toArray⟩ := ba_data (by
    have : (s.extract at_ (at_ + a.length)).data.toList = (s.data.toList.drop at_).take a.length := by
      simp [ByteArray.data_extract, List.take_drop]
    rw [this, h]
    simp)
  rw [e]

/-! ### ParseSpec2 -/
/-- What is said when the loop is left. -/
theorem fin_eq (s : ByteArray) (out : List S105) (ho : out.length ≤ 6) (hz : SizedL 1048576 out) (k : Nat) (hk : 4194304 < k) (x : Option (List S105 × Bool))
    (hx : x = (if s.toList = ([] : List UInt8) then (some ((([] : List S105)), false)) else ((spec_SetText.f k out).bind fun t => (if t.toList = s.toList then (some (out, true)) else (some ((([] : List S105)), false)))))) :
    (Text s out → x = some (out, true)) ∧ ((¬ Text s out) → x = some ([], false)) := by
  rw [hx, spec_SetText_eq out (by omega) hz k hk]
  simp only [Option.bind_some]
  constructor
  · rintro ⟨h1, rfl⟩
    have hne : ¬ (textOf out).toList = ([] : List UInt8) := by
      intro hh
      have hn : (⟨#[]⟩ : ByteArray).toList = ([] : List UInt8) := by
        unfold ByteArray.toList
        unfold ByteArray.toList.loop
        rfl
      have h2 := ba_ext (hh.trans hn.symm)
      have h3 := textOf_list out
      rw [h2] at h3
      cases out <;> simp at h3
    rw [if_neg hne, setText, if_pos h1, if_pos rfl]
  · intro h
    by_cases h0 : s.toList = ([] : List UInt8)
    · rw [if_pos h0]
    · rw [if_neg h0, if_neg]
      intro hh
      have he := ba_ext hh
      unfold setText at he
      by_cases ho : setOk out = true
      · rw [if_pos ho] at he; exact h ⟨ho, he⟩
      · rw [if_neg ho] at he
        apply h0
        rw [← he]
        unfold ByteArray.toList
        unfold ByteArray.toList.loop
        rfl
theorem l3_any (s : ByteArray) (hs : s.size ≤ 1048576) (at_ c : Nat) (k : Nat) (hk : 1048577 < k) : ∃ v i, spec_l3To.f k s (at_ : Int) (c : Int) = some (v, i) ∧ v.size ≤ 1048576 ∧ (i = -1 ∨ ∃ n : Nat, i = (n : Int) ∧ at_ < n ∧ n ≤ s.size) := by
  rw [l3_eq s hs at_ c k hk]
  cases h : ff (s.data.toList.drop at_) c with
  | none => exact ⟨_, _, rfl, by show (0 : Nat) ≤ 1048576; omega, Or.inl rfl⟩
  | some p =>
    have := ff_lt _ _ _ h
    rw [List.length_drop, dlen0] at this
    refine ⟨_, _, rfl, ?_, Or.inr ⟨at_ + p + 1, rfl, by omega, by omega⟩⟩
    have e : (s.extract at_ (at_ + p)).data.toList.length ≤ s.data.toList.length := by
      have : (s.extract at_ (at_ + p)).data.toList = (s.data.toList.drop at_).take p := by
        simp [ByteArray.data_extract, List.take_drop]
      rw [this, List.length_take, List.length_drop]; omega
    rw [dlen0, dlen0] at e
    omega
theorem spec_miss (s : ByteArray) (hs : s.size ≤ 1048576) (hn : ∀ l : List S105, ¬ Text s l) (d : Nat) : ∀ (k p : Nat) (out : List S105), p ≤ s.size + 1 → out.length + d = 5 → SizedL 1048576 out → 4194304 + 4 * d + 4 < k →
    spec_ParseSet.l0 k s out (p : Int) = some ([], false) := by
  induction d with
  | zero =>
    intro k p out hp hd ho hk
    obtain ⟨k, rfl⟩ : ∃ m, k = m + 1 + 1 := ⟨k - 2, by omega⟩
    have f : spec_ParseSet.j1 (k + 1) s out (p : Int) false = some ([], false) := by
      simp only [spec_ParseSet.j1, Bool.false_eq_true, if_false]
      exact (fin_eq s out (by omega) ho k (by omega) _ rfl).2 (hn out)
    simp only [spec_ParseSet.l0]
    rw [decide_eq_false (show ¬ (out.length : Int) ≤ 4 by omega), f]
    simp
  | succ d ih =>
    intro k p out hp hd ho hk
    obtain ⟨k, rfl⟩ : ∃ m, k = m + 1 + 1 + 1 := ⟨k - 3, by omega⟩
    have fin : ∀ kk : Nat, 4194304 < kk → (if s.toList = ([] : List UInt8) then (some ((([] : List S105)), false)) else ((spec_SetText.f kk out).bind fun t => (if t.toList = s.toList then (some (out, true)) else (some ((([] : List S105)), false))))) = some ([], false) := fun kk hkk => (fin_eq s out (by omega) ho kk hkk _ rfl).2 (hn out)
    have f : spec_ParseSet.j1 (k + 1 + 1) s out (p : Int) false = some ([], false) := by
      simp only [spec_ParseSet.j1, Bool.false_eq_true, if_false]
      exact fin _ (by omega)
    have j2 : ∀ q : Nat, q ≤ s.size + 3 → spec_ParseSet.j2 (k + 1) s out (q : Int) = some ([], false) := by
      intro q hq
      simp only [spec_ParseSet.j2]
      obtain ⟨v, i, e, hv, hi⟩ := l3_any s hs q 61 k (by omega)
      have e' : spec_l3To.f k s (q : Int) 61 = some (v, i) := e
      rw [e']
      simp only [Option.bind_some]
      rcases hi with rfl | ⟨n, rfl, hn1, hn2⟩
      · rw [if_pos (by omega)]; exact fin _ (by omega)
      · rw [if_neg (by omega)]
        have ew : wrap64 ((n : Int) + 1) = ((n + 1 : Nat) : Int) := by rw [w64 (by omega) (by omega)]; omega
        rw [ew]
        obtain ⟨v2, i2, e2, hv2, hi2⟩ := l3_any s hs (n + 1) 34 k (by omega)
        have e2' : spec_l3To.f k s ((n + 1 : Nat) : Int) 34 = some (v2, i2) := e2
        rw [e2']
        simp only [Option.bind_some]
        rcases hi2 with rfl | ⟨n2, rfl, hn3, hn4⟩
        · rw [if_pos (by omega)]; exact fin _ (by omega)
        · rw [if_neg (by omega), if_pos (by omega)]
          exact ih k n2 _ (by omega) (by simp; omega) (sized_snoc 1048576 out v v2 ho hv hv2) (by omega)
    have g : spec_ParseSet.j1 (k + 1 + 1) s out (p : Int) true = some ([], false) := by
      simp only [spec_ParseSet.j1, if_true]
      by_cases h0 : (out.length : Int) > 0
      · rw [if_pos h0]
        have ew : wrap64 ((p : Int) + 2) = ((p + 2 : Nat) : Int) := by rw [w64 (by omega) (by omega)]; omega
        rw [ew]
        exact j2 (p + 2) (by omega)
      · rw [if_neg h0]
        exact j2 p (by omega)
    simp only [spec_ParseSet.l0]
    rw [decide_eq_true (show (out.length : Int) ≤ 4 by omega), f, g]
    simp
theorem spec_ParseSet_miss (s : ByteArray) (hs : s.size ≤ 1048576) (h : ∀ l : List S105, ¬ Text s l) (k : Nat) (hk : 4194400 < k) : spec_ParseSet.f k s = some ([], false) :=
  spec_miss s hs h 5 k 1 [] (by omega) (by simp) (fun x hx => by simp at hx) (by omega)
theorem j2_seg (s : ByteArray) (hs : s.size ≤ 1048576) (x : S105) (hx : labelOk x.f0 x.f1 = true) (out : List S105) (ho : out.length ≤ 4) (p : Nat) (more : List UInt8) (hd : s.data.toList.drop p = seg x ++ more) (k : Nat) (hk : 1048577 < k) :
    spec_ParseSet.j2 (k + 1) s out (p : Int) = spec_ParseSet.l0 k s (out ++ [x]) ((p + (seg x).length : Nat) : Int) := by
  unfold labelOk at hx
  rw [Bool.and_eq_true] at hx
  have n1 : (61 : UInt8) ∉ x.f0.data.toList := fun hh => by
    have := name_no _ hx.1 _ hh
    simp at this
  have n2 : (34 : UInt8) ∉ x.f1.data.toList := fun hh => by
    have := plain_no _ hx.2 _ hh
    simp at this
  have hlen : s.data.toList.length = s.size := dlen0 s
  have hlt : p + (seg x ++ more).length ≤ s.size := by
    have := congrArg List.length hd
    rw [List.length_drop, hlen] at this
    have h2 : 0 < (seg x ++ more).length := by simp [seg]; omega
    omega
  have d1 : s.data.toList.drop p = x.f0.data.toList ++ 61 :: (34 :: (x.f1.data.toList ++ (34 :: more))) := by rw [hd]; simp [seg]
  have d2 : s.data.toList.drop (p + x.f0.data.toList.length + 2) = x.f1.data.toList ++ 34 :: more := by
    have : s.data.toList.drop (p + x.f0.data.toList.length + 2) = (s.data.toList.drop p).drop (x.f0.data.toList.length + 2) := by rw [List.drop_drop]; congr 1
    rw [this, d1]
    simp [List.drop_append]
  have a1 := l3_hit s hs p 61 x.f0.data.toList _ d1 n1 k hk
  have a1' : spec_l3To.f k s (p : Int) 61 = some (⟨x.f0.data.toList.toArray⟩, ((p + x.f0.data.toList.length + 1 : Nat) : Int)) := a1
  have a2 := l3_hit s hs (p + x.f0.data.toList.length + 2) 34 x.f1.data.toList _ d2 n2 k hk
  have a2' : spec_l3To.f k s ((p + x.f0.data.toList.length + 2 : Nat) : Int) 34 = some (⟨x.f1.data.toList.toArray⟩, ((p + x.f0.data.toList.length + 2 + x.f1.data.toList.length + 1 : Nat) : Int)) := a2
  simp only [spec_ParseSet.j2]
  have hsl : (seg x).length = x.f0.data.toList.length + 2 + x.f1.data.toList.length + 1 := by simp [seg]; omega
  have hlt' : p + (seg x).length ≤ s.size := by rw [List.length_append] at hlt; omega
  rw [a1']
  simp only [Option.bind_some]
  have ew : wrap64 (((p + x.f0.data.toList.length + 1 : Nat) : Int) + 1) = ((p + x.f0.data.toList.length + 2 : Nat) : Int) := by rw [w64 (by omega) (by omega)]; omega
  rw [if_neg (by omega), ew, a2']
  simp only [Option.bind_some]
  rw [if_neg (by omega), if_pos (by omega)]
  have ep : p + x.f0.data.toList.length + 2 + x.f1.data.toList.length + 1 = p + (seg x).length := by omega
  rw [ep]

/-! ### ParseSpec3 -/
theorem spec_tail (s : ByteArray) (hs : s.size ≤ 1048576) : ∀ (l out : List S105) (k p : Nat), (∀ x ∈ l, labelOk x.f0 x.f1 = true) → 0 < out.length → out.length + l.length ≤ 4 → s.data.toList.drop p = tailT l → SizedL 1048576 (out ++ l) → Text s (out ++ l) → 4194304 + 4 * l.length + 8 < k →
    spec_ParseSet.l0 k s out (p : Int) = some (out ++ l, true)
  | [], out, k, p, _, h0, h4, hd, hz, ht, hk => by
    obtain ⟨k, rfl⟩ : ∃ m, k = m + 1 + 1 := ⟨k - 2, by omega⟩
    have hl := congrArg List.length hd
    rw [List.length_drop, dlen0] at hl
    simp [tailT] at hl
    rw [List.append_nil] at hz ht ⊢
    simp only [spec_ParseSet.l0]
    rw [w64 (by omega) (by omega), if_neg (by omega)]
    simp only [spec_ParseSet.j1, Bool.false_eq_true, if_false]
    exact (fin_eq s out (by simp at h4; omega) hz k (by omega) _ rfl).1 ht
  | x :: l, out, k, p, hl, h0, h4, hd, hz, ht, hk => by
    obtain ⟨k, rfl⟩ : ∃ m, k = m + 1 + 1 + 1 := ⟨k - 3, by omega⟩
    simp only [List.length_cons] at h4 hk
    have hlen := congrArg List.length hd
    rw [List.length_drop, dlen0] at hlen
    have ht1 : (tailT (x :: l)).length = 2 + ((seg x).length + (tailT l).length) := by simp [tailT]; omega
    have ht2 : 0 < (tailT l).length := by cases l <;> simp [tailT]
    rw [ht1] at hlen
    have d2 : s.data.toList.drop (p + 2) = seg x ++ tailT l := by
      have : s.data.toList.drop (p + 2) = (s.data.toList.drop p).drop 2 := by rw [List.drop_drop]
      rw [this, hd]; rfl
    simp only [spec_ParseSet.l0]
    rw [w64 (x := (s.size : Int) - 1) (by omega) (by omega), if_pos (by omega), decide_eq_true (show (out.length : Int) ≤ 4 by omega)]
    simp only [spec_ParseSet.j1, if_true]
    rw [if_pos (by omega)]
    have ew : wrap64 ((p : Int) + 2) = ((p + 2 : Nat) : Int) := by rw [w64 (by omega) (by omega)]; omega
    rw [ew, j2_seg s hs x (hl x List.mem_cons_self) out (by omega) (p + 2) (tailT l) d2 k (by omega)]
    have d3 : s.data.toList.drop (p + 2 + (seg x).length) = tailT l := by
      have : s.data.toList.drop (p + 2 + (seg x).length) = (s.data.toList.drop (p + 2)).drop (seg x).length := by rw [List.drop_drop]
      rw [this, d2]; simp
    have ea : out ++ [x] ++ l = out ++ x :: l := by simp
    rw [spec_tail s hs l (out ++ [x]) k (p + 2 + (seg x).length) (fun y hy => hl y (List.mem_cons_of_mem _ hy)) (by simp) (by simp; omega) d3 (by rw [ea]; exact hz) (by rw [ea]; exact ht) (by omega), ea]
theorem spec_ParseSet_hit (s : ByteArray) (hs : s.size ≤ 1048576) (l : List S105) (h : Text s l) (hz : SizedL 1048576 l) (k : Nat) (hk : 4195000 < k) : spec_ParseSet.f k s = some (l, true) := by
  have hl := labs_ok l h.1
  have h4 := setOk_le l h.1
  obtain ⟨k, rfl⟩ : ∃ m, k = m + 1 + 1 + 1 := ⟨k - 3, by omega⟩
  have ts : s.data.toList = (textOf l).data.toList := by rw [h.2]
  have hlen := congrArg List.length ts
  rw [dlen0] at hlen
  unfold spec_ParseSet.f
  simp only [spec_ParseSet.l0]
  cases l with
  | nil =>
    have h2 : s.size = 2 := by rw [hlen]; rfl
    rw [w64 (by omega) (by omega), if_neg (by omega)]
    simp only [spec_ParseSet.j1, Bool.false_eq_true, if_false]
    exact (fin_eq s [] (by simp) hz (k + 1) (by omega) _ rfl).1 h
  | cons x l =>
    have tl := textOf_list (x :: l)
    simp only at tl
    rw [tl] at ts hlen
    have hsl : 0 < (tailT l).length := by cases l <;> simp [tailT]
    have hsg : 0 < (seg x).length := by simp [seg]; omega
    simp only [List.length_cons, List.length_append] at hlen h4
    rw [w64 (by omega) (by omega), if_pos (by omega)]
    have e0 : decide (((([] : List S105).length : Nat) : Int) ≤ 4) = true := rfl
    rw [e0]
    simp only [spec_ParseSet.j1, if_true]
    have e1 : ¬ (((([] : List S105).length : Nat) : Int) > 0) := by simp
    rw [if_neg e1]
    have d1 : s.data.toList.drop 1 = seg x ++ tailT l := by rw [ts]; rfl
    have ej := j2_seg s hs x (hl x List.mem_cons_self) [] (by simp) 1 (tailT l) d1 k (by omega)
    have e2 : ((1 : Nat) : Int) = 1 := rfl
    rw [e2] at ej
    rw [ej]
    have d3 : s.data.toList.drop (1 + (seg x).length) = tailT l := by
      have : s.data.toList.drop (1 + (seg x).length) = (s.data.toList.drop 1).drop (seg x).length := by rw [List.drop_drop]
      rw [this, d1]; simp
    exact spec_tail s hs l ([] ++ [x]) k (1 + (seg x).length) (fun y hy => hl y (List.mem_cons_of_mem _ hy)) (by simp) (by simp; omega) d3 hz h (by omega)
/-- Labels whose text is short are short. -/
theorem text_sized (s : ByteArray) (hs : s.size ≤ 1048576) (l : List S105) (h : Text s l) : SizedL 1048576 l := by
  intro x hx
  have := labs_ok l h.1 x hx
  unfold labelOk nameOk plainOk inB at this
  simp only [Bool.and_eq_true, decide_eq_true_iff] at this
  omega
theorem Parse_both (s : ByteArray) (hs : s.size ≤ 1048576) (k : Nat) (hk : 4195000 < k) : ∃ (l : List S105) (b : Bool), l.length ≤ 4 ∧ SizedL 1048576 l ∧ spec_ParseSet.f k s = some (l, b) ∧ impl_ParseSet.f k s = some (l, b) := by
  by_cases h : ∃ l : List S105, Text s l
  · obtain ⟨l, hl⟩ := h
    have hz := text_sized s hs l hl
    exact ⟨l, true, setOk_le l hl.1, hz, spec_ParseSet_hit s hs l hl hz k hk, impl_ParseSet_hit s hs l hl hz k (by omega)⟩
  · have h' : ∀ l : List S105, ¬ Text s l := fun l hl => h ⟨l, hl⟩
    exact ⟨[], false, by simp, fun x hx => by simp at hx, spec_ParseSet_miss s hs h' k (by omega), impl_ParseSet_miss s hs h' k (by omega)⟩

/-! ### MarkText -/
def markLoop : Nat → Int → ByteArray → ByteArray
  | 0, _, s => (⟨#[109]⟩ : ByteArray) ++ s
  | d + 1, x, s => if x > 0 then markLoop d (Int.tdiv x 10) ((strOfNums [(wrap64 (48 + (Int.tmod x 10))) % 256]) ++ s) else (⟨#[109]⟩ : ByteArray) ++ s
def markOf (n : Int) : ByteArray := if n ≤ 0 then (⟨#[109, 48]⟩ : ByteArray) else markLoop 20 n (⟨#[]⟩ : ByteArray)
theorem strOf1 (c : Int) : (strOfNums [c]).size = 1 := by simp [strOfNums, ByteArray.size]
theorem markLoop_eq (d : Nat) : ∀ (k : Nat) (x : Int) (s : ByteArray), 0 ≤ x → x < 10 ^ d → x < 9223372036854775807 → s.size + d ≤ 1000 → d < k → laws_markText.l0 k x s = some (markLoop d x s) := by
  induction d with
  | zero =>
    intro k x s h0 h1 _ hs hk
    obtain ⟨k, rfl⟩ : ∃ m, k = m + 1 := ⟨k - 1, by omega⟩
    simp only [laws_markText.l0, markLoop]
    rw [if_neg (by omega), if_pos (by omega)]
  | succ d ih =>
    intro k x s h0 h1 h2 hs hk
    obtain ⟨k, rfl⟩ : ∃ m, k = m + 1 := ⟨k - 1, by omega⟩
    simp only [laws_markText.l0, markLoop]
    by_cases hx : x > 0
    · rw [if_pos hx, if_pos hx]
      simp only [Option.bind_some]
      have e : Int.tdiv x 10 = x / 10 := Int.tdiv_eq_ediv_of_nonneg h0
      have h10 : (10 : Int) ^ (d + 1) = 10 ^ d * 10 := Int.pow_succ 10 d
      rw [if_pos (by rw [strOf1]; omega), w64 (x := Int.tdiv x 10) (by omega) (by omega)]
      refine ih k _ _ (by omega) (by rw [e]; omega) (by omega) ?_ (by omega)
      rw [ByteArray.size_append, strOf1]
      omega
    · rw [if_neg hx, if_neg hx, if_pos (by omega)]
theorem markText_eq (n : Int) (hn : n ≤ 4611686018427387904) (k : Nat) (hk : 21 < k) : laws_markText.f k n = some (markOf n) := by
  unfold laws_markText.f markOf
  by_cases h : n ≤ 0
  · rw [if_pos h, if_pos h]
  · rw [if_neg h, if_neg h]
    exact markLoop_eq 20 k n _ (by omega) (by omega) (by omega) (by decide) (by omega)

/-! ### MarkL -/
def mkLab (b : S105) (x : Int) : S105 := ⟨markOf x, markOf (x + 1)⟩
theorem laws_markLabelS_eq (l : List S105) (hl : l.length ≤ 140737488351232) (x : Int) (h0 : 0 ≤ x) (hx : x + 2 * l.length ≤ 4611686018427387902) (k : Nat) (hk : 22 + l.length < k) :
    laws_markLabelS.f k l x = some (x + 2 * l.length, markAll mkLab (fun _ => 2) l x) := by
  have ht : total (fun _ : S105 => 2) l = 2 * l.length := total_const 2 l
  have h := mark_loop mkLab (fun _ => 2) 22 4611686018427387902 (fun _ => True) (fun k l x i => laws_markLabelS.l0 k l x i) ?_ ?_ l [] k x h0 (by rw [ht]; omega) hl (fun _ _ => trivial) (by omega)
  · rw [ht] at h
    simpa [laws_markLabelS.f] using h
  · intro k pre b rest x hk h0 hB hn _
    simp only [laws_markLabelS.l0]
    have hlen : (pre ++ b :: rest).length = pre.length + rest.length + 1 := by simp; omega
    rw [if_pos (by rw [hlen]; omega), markText_eq x (by omega) k (by omega)]
    simp only [Option.bind_some]
    rw [if_pos (by omega), w64 (x := x + 1) (by omega) (by omega), markText_eq (x + 1) (by omega) k (by omega)]
    simp only [Option.bind_some, Int.toNat_natCast, set_pre, List.set_set]
    rw [w64 (x := x + 1 + 1) (by omega) (by omega), w64 (x := (pre.length : Int) + 1) (by omega) (by omega)]
    have hr : (rd_T105 (pre ++ ⟨markOf x, (rd_T105 (pre ++ b :: rest) pre.length).f1⟩ :: rest) pre.length).f0 = markOf x := by
      unfold rd_T105
      simp only [Int.toNat_natCast, getD_pre]
    rw [hr]
    have e : x + 1 + 1 = x + ((2 : Nat) : Int) := by omega
    rw [e]
    rfl
  · intro k l x _
    simp only [laws_markLabelS.l0]
    rw [if_neg (by omega)]
theorem laws_heldLabelS_eq (l : List S105) (hl : l.length ≤ 140737488351232) (x : Int) (h0 : 0 ≤ x) (hx : x + 2 * l.length ≤ 4611686018427387902) (k : Nat) (hk : 22 + l.length < k) :
    laws_heldLabelS.f k (markAll mkLab (fun _ => 2) l x) x = some (x + 2 * l.length) := by
  have ht : total (fun _ : S105 => 2) l = 2 * l.length := total_const 2 l
  have h := held_loop mkLab (fun _ => 2) 22 4611686018427387902 (fun _ => True) (fun k l x i => laws_heldLabelS.l0 k l x i) ?_ ?_ l [] k x h0 (by rw [ht]; omega) hl (fun _ _ => trivial) (by omega)
  · rw [ht] at h
    simpa [laws_heldLabelS.f] using h
  · intro k pre b rest x hk h0 hB hn _
    have hlen : (pre ++ mkLab b x :: rest).length = pre.length + rest.length + 1 := by simp; omega
    have hr : rd_T105 (pre ++ mkLab b x :: rest) pre.length = mkLab b x := by
      unfold rd_T105
      simp only [Int.toNat_natCast, getD_pre]
    simp only [laws_heldLabelS.l0]
    rw [if_pos (by rw [hlen]; omega), if_pos (by omega), markText_eq x (by omega) k (by omega), hr]
    simp only [Option.bind_some, mkLab, if_true]
    rw [w64 (x := x + 1) (by omega) (by omega), markText_eq (x + 1) (by omega) k (by omega)]
    simp only [Option.bind_some, if_true]
    rw [w64 (x := x + 1 + 1) (by omega) (by omega), w64 (x := (pre.length : Int) + 1) (by omega) (by omega)]
    have e : x + 1 + 1 = x + ((2 : Nat) : Int) := by omega
    rw [e]
    rfl
  · intro k l x _
    simp only [laws_heldLabelS.l0]
    rw [if_neg (by omega)]

/-! ### EqL -/
theorem laws_eqLabelS_refl (l : List S105) (hl : l.length ≤ 140737488351232) (k : Nat) (hk : l.length < k) : laws_eqLabelS.f k l l = some true := by
  unfold laws_eqLabelS.f
  rw [if_pos rfl]
  rw [all_loop (n := l.length) (by omega) 0 (fun _ => true) (fun k i => laws_eqLabelS.l0 k l l i) (some true) ?_ ?_ l.length k 0 (by omega) (by omega) (by omega) (by omega)]
  · rw [allFrom_true (fun _ => rfl)]; rfl
  · intro k i _ h0 h1
    simp only [laws_eqLabelS.l0]
    rw [if_pos h1, if_pos h0, if_pos h1]
    simp only [laws_eqLabel.f, Option.bind_some, if_true]
  · intro k _
    simp only [laws_eqLabelS.l0]
    rw [if_neg (by omega)]

theorem FnExactParseSet (a0 : ByteArray) (h0 : a0.size ≤ 140737488351232) : ∃ k, laws_FnExactParseSet.f k a0 = some true := by
  obtain ⟨m, hm⟩ : ∃ m : Nat, 16777216 < m := ⟨16777217, by omega⟩
  refine ⟨m + 2, ?_⟩
  unfold laws_FnExactParseSet.f
  by_cases hb : (a0.size : Int) > 1048576
  · rw [if_pos hb]
  · rw [if_neg hb]
    obtain ⟨l, b, hl, hz, e1, e2⟩ := Parse_both a0 (by omega) (m + 2) (by omega)
    obtain ⟨l', b', _, _, e3, e4⟩ := Parse_both a0 (by omega) (m + 1) (by omega)
    have eq3 : impl_ParseSet.f (m + 1) a0 = some (l, b) := by
      by_cases h : ∃ l : List S105, Text a0 l
      · obtain ⟨q, hq⟩ := h
        have hz := text_sized a0 (by omega) q hq
        rw [impl_ParseSet_hit a0 (by omega) q hq hz (m + 1) (by omega)]
        rw [impl_ParseSet_hit a0 (by omega) q hq hz (m + 2) (by omega)] at e2
        exact e2
      · have h' : ∀ l : List S105, ¬ Text a0 l := fun l hl => h ⟨l, hl⟩
        rw [impl_ParseSet_miss a0 (by omega) h' (m + 1) (by omega)]
        rw [impl_ParseSet_miss a0 (by omega) h' (m + 2) (by omega)] at e2
        exact e2
    have r : ∀ k, 16777216 < k → laws_eqLabelS.f k l l = some true := fun k hk => laws_eqLabelS_refl l (by omega) k (by omega)
    have mk : ∀ k, 16777216 < k → laws_markLabelS.f k l 1 = some (1 + 2 * (l.length : Int), markAll mkLab (fun _ => 2) l 1) := fun k hk => laws_markLabelS_eq l (by omega) 1 (by omega) (by omega) k (by omega)
    have hd : ∀ k, 16777216 < k → laws_heldLabelS.f k (markAll mkLab (fun _ => 2) l 1) 1 = some (1 + 2 * (l.length : Int)) := fun k hk => laws_heldLabelS_eq l (by omega) 1 (by omega) (by omega) k (by omega)
    have ng : ¬ (1 + 2 * (l.length : Int) < 0) := by omega
    have ng' : ((1 + 2 * (l.length : Int)) < 0) = False := eq_false ng
    have hm1 : 16777216 < m + 1 := by omega
    have hm2 : 16777216 < m + 1 + 1 := by omega
    rw [e1, e2]
    simp only [Option.bind_some]
    rw [r _ (by omega)]
    simp only [Option.bind_some, if_true, bne_self_eq_false, laws_FnExactParseSet.j0, Bool.false_eq_true, if_false, mk, hd, r, hm, hm1, hm2, ng', eq3, laws_FnExactParseSet.j1]

end Go.Proofs.Ytglefglknlcojac.Pure
