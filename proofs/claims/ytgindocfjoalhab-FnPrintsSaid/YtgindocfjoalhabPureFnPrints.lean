/- Of drawn labels and texts: labels come back of their words; what is the same has one sum; what is alike is not the same: for every draw; no conditions. -/
import Derived.Test.YtgindocfjoalhabPFnPrintsx11
import Derived.Test.YtgindocfjoalhabM0
import Derived.Test.YtgindocfjoalhabM1
import Derived.Test.YtgindocfjoalhabM2
import Derived.Test.YtgindocfjoalhabM3
import Derived.Test.YtgindocfjoalhabM4
import Derived.Test.YtgindocfjoalhabM5
set_option linter.unusedVariables false
set_option linter.unusedSimpArgs false
namespace Go.Proofs.Ytgindocfjoalhab.Pure
open Go.RowKit Go.Proofs.Ytgindocfjoalhab.PFnPrints Go.Proofs.YtgindocfjoalhabW.PrintWords Go.Proofs.YtgindocfjoalhabW.PrintLast Go.Proofs.Ytgindocfjoalhab.M0 Go.Proofs.Ytgindocfjoalhab.M1 Go.Proofs.Ytgindocfjoalhab.M2 Go.Proofs.Ytgindocfjoalhab.M3 Go.Proofs.Ytgindocfjoalhab.M4 Go.Proofs.Ytgindocfjoalhab.M5

/-! ### Cur -/
theorem l1Byte_ok (b : List Int) (i h : Int) (hc : CurOk b i) : ∃ x i' h', spec_l1Byte.f b i h = some (x, i', h') ∧ 0 ≤ x ∧ x ≤ 255 ∧ CurOk b i' := by
  obtain ⟨h0, h1, h2⟩ := hc
  unfold spec_l1Byte.f
  by_cases hi : i < (b.length : Int)
  · rw [if_pos hi, if_pos h0]
    exact ⟨_, _, _, rfl, (and255 _).1, (and255 _).2, by rw [w64 (by omega) (by omega)]; exact ⟨by omega, by omega, h2⟩⟩
  · rw [if_neg hi]
    exact ⟨_, _, _, rfl, (and255 _).1, (and255 _).2, h0, h1, h2⟩
theorem l1Below_ok (b : List Int) (i h n : Int) (hc : CurOk b i) : ∃ x i' h', spec_l1Below.f b i h n = some (x, i', h') ∧ 0 ≤ x ∧ (0 < n → x < n) ∧ CurOk b i' := by
  unfold spec_l1Below.f
  by_cases hn : n ≤ 0
  · rw [if_pos hn]
    exact ⟨_, _, _, rfl, by omega, by omega, hc⟩
  · rw [if_neg hn]
    obtain ⟨x, i1, g1, e1, hx0, hx1, c1⟩ := l1Byte_ok b i h hc
    by_cases hb : n ≤ 256
    · rw [if_pos hb, e1]
      simp only [Option.bind_some]
      rw [if_neg (by omega)]
      have := tmod_range hx0 (show 0 < n by omega)
      exact ⟨_, _, _, rfl, this.1, fun _ => this.2, c1⟩
    · obtain ⟨y, i2, g2, e2, hy0, hy1, c2⟩ := l1Byte_ok b i1 g1 c1
      obtain ⟨z, i3, g3, e3, hz0, hz1, c3⟩ := l1Byte_ok b i2 g2 c2
      rw [if_neg hb, e1]
      simp only [Option.bind_some, e2, e3]
      rw [if_neg (by omega), w64 (x := x * 65536) (by omega) (by omega), w64 (x := y * 256) (by omega) (by omega), w64 (x := x * 65536 + y * 256) (by omega) (by omega), w64 (by omega) (by omega)]
      have := tmod_range (show 0 ≤ x * 65536 + y * 256 + z by omega) (show 0 < n by omega)
      exact ⟨_, _, _, rfl, this.1, fun _ => this.2, c3⟩

/-! ### CurNew -/
theorem l1New_l (b : List Int) (hb : b.length ≤ 140737488351232) (d : Nat) : ∀ (k : Nat) (x i : Int), 0 ≤ i → (b.length : Int) - i = d → d < k → ∃ h, spec_l1New.l0 k b x i = some (b, 0, h) := by
  induction d with
  | zero =>
    intro k x i h0 hd hk
    obtain ⟨k, rfl⟩ : ∃ m, k = m + 1 := ⟨k - 1, by omega⟩
    simp only [spec_l1New.l0]
    rw [if_neg (by omega)]
    exact ⟨_, rfl⟩
  | succ d ih =>
    intro k x i h0 hd hk
    obtain ⟨k, rfl⟩ : ∃ m, k = m + 1 := ⟨k - 1, by omega⟩
    simp only [spec_l1New.l0]
    rw [if_pos (by omega)]
    by_cases h4 : i < 4000
    · rw [if_pos h4, if_pos h0, w64 (x := i + 1) (by omega) (by omega)]
      exact ih k _ _ (by omega) (by omega) (by omega)
    · rw [if_neg h4]
      exact ⟨_, rfl⟩
theorem l1New_ok (b : List Int) (hb : b.length ≤ 140737488351232) (k : Nat) (hk : b.length < k) : ∃ h, spec_l1New.f k b = some (b, 0, h) ∧ CurOk b 0 := by
  obtain ⟨h, e⟩ := l1New_l b hb b.length k (wrap64 (140873 + (b.length : Int))) 0 (by omega) (by omega) hk
  exact ⟨h, e, by omega, by omega, hb⟩

/-! ### CurOnce -/
theorem l1Once_ok (b : List Int) (i h n : Int) (hc : CurOk b i) : ∃ t i' h', spec_l1Once.f b i h n = some (t, i', h') ∧ CurOk b i' := by
  obtain ⟨x, i1, h1, e, _, _, c⟩ := l1Below_ok b i h n hc
  unfold spec_l1Once.f
  rw [e]
  exact ⟨_, _, _, rfl, c⟩

/-! ### CurStr -/
theorem l1Str_ok (b : List Int) (i h : Int) (l : List ByteArray) (hl : 0 < l.length) (hc : CurOk b i) : ∃ s i' h', spec_l1Str.f b i h l = some (s, i', h') ∧ s ∈ l ∧ CurOk b i' := by
  obtain ⟨x, i1, h1, e, h0, hn, c⟩ := l1Below_ok b i h l.length hc
  unfold spec_l1Str.f
  rw [e]
  simp only [Option.bind_some]
  rw [if_pos h0, if_pos (hn (by omega))]
  exact ⟨_, _, _, rfl, rdOf_mem _ _ _ h0 (hn (by omega)), c⟩
theorem all13 (l : List ByteArray) (h : l.all (fun s => decide (s.size ≤ 13)) = true) : ∀ s ∈ l, s.size ≤ 13 := fun s hs => of_decide_eq_true (List.all_eq_true.1 h s hs)
theorem l1Str_sz (b : List Int) (i h : Int) (l : List ByteArray) (hl : 0 < l.length) (h13 : l.all (fun s => decide (s.size ≤ 13)) = true) (hc : CurOk b i) : ∃ s i' h', spec_l1Str.f b i h l = some (s, i', h') ∧ s.size ≤ 13 ∧ CurOk b i' := by
  obtain ⟨s, i', h', e, hm, c⟩ := l1Str_ok b i h l hl hc
  exact ⟨s, i', h', e, all13 l h13 s hm, c⟩

/-! ### NameOk -/
def nameB (s : ByteArray) (i : Int) : Bool := !(decide (bt s i < 97) || decide (bt s i > 122))
def inB (x a b : Int) : Bool := decide (a ≤ x) && decide (x ≤ b)
def nameOk (s : ByteArray) : Bool := allFrom (nameB s) s.size 0 && inB s.size 1 8
theorem spec_l1In_eq (x a b : Int) : spec_l1In.f x a b = some (inB x a b) := by
  unfold spec_l1In.f inB
  by_cases h : x ≥ a
  · rw [if_pos h, decide_eq_true (show a ≤ x from h)]; simp
  · rw [if_neg h, decide_eq_false (show ¬ a ≤ x from h)]; simp
theorem impl_in_eq (x a b : Int) : impl_in.f x a b = some (inB x a b) := by
  unfold impl_in.f inB
  by_cases h : x ≥ a
  · rw [if_pos h, decide_eq_true (show a ≤ x from h)]; simp
  · rw [if_neg h, decide_eq_false (show ¬ a ≤ x from h)]; simp
theorem name_round (s : ByteArray) (i : Int) (x : Option Bool) :
    (if (bt s i) < 97 then (some false) else (if (bt s i) > 122 then (some false) else x)) = if nameB s i = true then x else some false := by
  by_cases h1 : bt s i < 97
  · simp [nameB, h1]
  by_cases h2 : bt s i > 122
  · simp [nameB, h2]
  rw [if_neg h1, if_neg h2, if_pos (by simp [nameB, h1, h2])]
theorem spec_NameOk_eq (s : ByteArray) (hn : s.size ≤ 140737488351232) (k : Nat) (hk : s.size < k) : spec_NameOk.f k s = some (nameOk s) := by
  unfold spec_NameOk.f nameOk
  rw [all_loop hn 0 (nameB s) (fun k i => spec_NameOk.l0 k s i) (some (inB s.size 1 8)) ?_ ?_ s.size k 0 (by omega) (by omega) (by omega) (by omega)]
  · by_cases h : allFrom (nameB s) s.size 0 = true
    · simp [h]
    · simp [h]
  · intro k i _ h0 h1
    simp only [spec_NameOk.l0]
    rw [if_pos h1, if_pos h0, name_round]
  · intro k _
    simp only [spec_NameOk.l0]
    rw [if_neg (by omega), spec_l1In_eq]; rfl
theorem impl_NameOk_eq (s : ByteArray) (hn : s.size ≤ 140737488351232) (k : Nat) (hk : s.size < k) : impl_NameOk.f k s = some (nameOk s) := by
  unfold impl_NameOk.f nameOk
  rw [impl_in_eq]
  simp only [Option.bind_some]
  by_cases h12 : inB s.size 1 8 = true
  · rw [if_pos h12, h12]
    rw [all_loop hn 0 (nameB s) (fun k i => impl_NameOk.l0 k s i) (some true) ?_ ?_ s.size k 0 (by omega) (by omega) (by omega) (by omega)]
    · by_cases h : allFrom (nameB s) s.size 0 = true
      · simp [h]
      · simp [h]
    · intro k i _ h0 h1
      simp only [impl_NameOk.l0]
      rw [if_pos h1, if_pos h0, name_round]
    · intro k _
      simp only [impl_NameOk.l0]
      rw [if_neg (by omega)]
  · rw [if_neg h12]; simp [h12]

/-! ### PlainOk -/
def plainB (s : ByteArray) (i : Int) : Bool := !(decide (bt s i < 32) || decide (bt s i > 126) || decide (bt s i = 34) || decide (bt s i = 92))
def plainOk (s : ByteArray) : Bool := allFrom (plainB s) s.size 0 && decide ((s.size : Int) ≤ 12)
theorem plain_round (s : ByteArray) (i : Int) (x : Option Bool) :
    (if (bt s i) < 32 then (some false) else (if (bt s i) > 126 then (some false) else (if (bt s i) = 34 then (some false) else (if (bt s i) = 92 then (some false) else x)))) = if plainB s i = true then x else some false := by
  by_cases h1 : bt s i < 32
  · simp [plainB, h1]
  by_cases h2 : bt s i > 126
  · simp [plainB, h2]
  by_cases h3 : bt s i = 34
  · simp [plainB, h3]
  by_cases h4 : bt s i = 92
  · simp [plainB, h4]
  rw [if_neg h1, if_neg h2, if_neg h3, if_neg h4, if_pos (by simp [plainB, h1, h2, h3, h4])]
theorem spec_PlainOk_eq (s : ByteArray) (hn : s.size ≤ 140737488351232) (k : Nat) (hk : s.size < k) : spec_PlainOk.f k s = some (plainOk s) := by
  unfold spec_PlainOk.f plainOk
  rw [all_loop hn 0 (plainB s) (fun k i => spec_PlainOk.l0 k s i) (some (decide ((s.size : Int) ≤ 12))) ?_ ?_ s.size k 0 (by omega) (by omega) (by omega) (by omega)]
  · by_cases h : allFrom (plainB s) s.size 0 = true
    · simp [h]
    · simp [h]
  · intro k i _ h0 h1
    simp only [spec_PlainOk.l0]
    rw [if_pos h1, if_pos h0, plain_round]
  · intro k _
    simp only [spec_PlainOk.l0]
    rw [if_neg (by omega)]
theorem impl_PlainOk_eq (s : ByteArray) (hn : s.size ≤ 140737488351232) (k : Nat) (hk : s.size < k) : impl_PlainOk.f k s = some (plainOk s) := by
  unfold impl_PlainOk.f plainOk
  by_cases h12 : (s.size : Int) > 12
  · rw [if_pos h12, decide_eq_false (by omega)]; simp
  · rw [if_neg h12, decide_eq_true (by omega)]
    rw [all_loop hn 0 (plainB s) (fun k i => impl_PlainOk.l0 k s i) (some true) ?_ ?_ s.size k 0 (by omega) (by omega) (by omega) (by omega)]
    · by_cases h : allFrom (plainB s) s.size 0 = true
      · simp [h]
      · simp [h]
    · intro k i _ h0 h1
      simp only [impl_PlainOk.l0]
      rw [if_pos h1, if_pos h0, plain_round]
    · intro k _
      simp only [impl_PlainOk.l0]
      rw [if_neg (by omega)]

/-! ### LabelOk -/
def labelOk (a b : ByteArray) : Bool := nameOk a && plainOk b
theorem spec_LabelOk_eq (a b : ByteArray) (ha : a.size ≤ 140737488351232) (hb : b.size ≤ 140737488351232) (k : Nat) (hk : a.size < k) (hk' : b.size < k) : spec_LabelOk.f k a b = some (labelOk a b) := by
  unfold spec_LabelOk.f labelOk
  rw [spec_NameOk_eq a ha k hk, spec_PlainOk_eq b hb k hk']
  cases nameOk a <;> simp
theorem impl_LabelOk_eq (a b : ByteArray) (ha : a.size ≤ 140737488351232) (hb : b.size ≤ 140737488351232) (k : Nat) (hk : a.size < k) (hk' : b.size < k) : impl_LabelOk.f k a b = some (labelOk a b) := by
  unfold impl_LabelOk.f labelOk
  rw [impl_NameOk_eq a ha k hk, impl_PlainOk_eq b hb k hk']
  cases nameOk a <;> simp

/-! ### SetOk -/
/-- Each label's sizes. -/
def SizedL (M : Nat) (l : List S86) : Prop := ∀ x ∈ l, x.f0.size ≤ M ∧ x.f1.size ≤ M
theorem rd_mem (l : List S86) (i : Int) (h0 : 0 ≤ i) (h1 : i < (l.length : Int)) : rd_T86 l i ∈ l := by
  unfold rd_T86
  rw [List.getD_eq_getElem?_getD, List.getElem?_eq_getElem (by omega)]
  exact List.getElem_mem (by omega)
def setB (l : List S86) (i : Int) : Bool := labelOk (rd_T86 l i).f0 (rd_T86 l i).f1 && (decide (i = 0) || Op.bytesLess (rd_T86 l (i - 1)).f0.toList (rd_T86 l i).f0.toList)
def setOk (l : List S86) : Bool := allFrom (setB l) l.length 0 && decide (l.length ≤ 4)
theorem spec_SetOk_eq (l : List S86) (hl : l.length ≤ 1048576) (M : Nat) (hM : M ≤ 1048576) (hs : SizedL M l) (k : Nat) (hk : l.length + M + 1 < k) : spec_SetOk.f k l = some (setOk l) := by
  unfold spec_SetOk.f setOk
  rw [all_loop (n := l.length) (by omega) (M + 1) (setB l) (fun k i => spec_SetOk.l0 k l i) (some (decide ((l.length : Int) ≤ 4))) ?_ ?_ l.length k 0 (by omega) (by omega) (by omega) (by omega)]
  · have e : decide ((l.length : Int) ≤ 4) = decide (l.length ≤ 4) := by rw [decide_eq_decide]; omega
    rw [e]
    cases allFrom (setB l) l.length 0 <;> simp
  · intro k i hk h0 h1
    have hm := hs _ (rd_mem l i h0 h1)
    simp only [spec_SetOk.l0]
    rw [if_pos h1, if_pos h0, spec_LabelOk_eq _ _ (by omega) (by omega) _ (by omega) (by omega)]
    simp only [Option.bind_some]
    by_cases hL : labelOk (rd_T86 l i).f0 (rd_T86 l i).f1 = true
    · rw [if_pos hL]
      by_cases hz : i = 0
      · have e : setB l i = true := by unfold setB; rw [hL, decide_eq_true hz]; rfl
        rw [if_neg (by omega), if_pos e]
      · have e : setB l i = Op.bytesLess (rd_T86 l (i - 1)).f0.toList (rd_T86 l i).f0.toList := by simp [setB, hL, hz]
        rw [if_pos (by omega), w64 (x := i - 1) (by omega) (by omega), if_pos (by omega), if_pos (by omega), e]
        simp only [spec_Less.f, Option.bind_some]
    · have e : setB l i = false := by simp [setB, hL]
      rw [if_neg hL, if_neg (by simp [e])]
  · intro k _
    simp only [spec_SetOk.l0]
    rw [if_neg (by omega)]
theorem impl_SetOk_eq (l : List S86) (hl : l.length ≤ 1048576) (M : Nat) (hM : M ≤ 1048576) (hs : SizedL M l) (k : Nat) (hk : l.length + M + 1 < k) : impl_SetOk.f k l = some (setOk l) := by
  unfold impl_SetOk.f setOk
  have key := all_loop (n := l.length) (by omega) (M + 1) (fun i => decide (i < 4) && setB l i) (fun k i => impl_SetOk.l0 k l l l.length i) (some true) ?_ ?_ l.length k 0 (by omega) (by omega) (by omega) (by omega)
  · rw [key, bool_of_if]
    congr 1
    by_cases h4 : l.length ≤ 4
    · rw [decide_eq_true h4, Bool.and_true]
      exact allFrom_congr _ _ (fun j h0 h1 => by rw [decide_eq_true (by omega)]; rfl)
    · rw [decide_eq_false h4, Bool.and_false, Bool.eq_false_iff]
      intro h
      have := (allFrom_iff _ _).mp h 4 (by omega) (by omega)
      simp at this
  · intro k i hk h0 h1
    have hm := hs _ (rd_mem l i h0 h1)
    simp only [impl_SetOk.l0]
    rw [if_pos h1, if_pos h0, if_pos h1]
    by_cases h4 : i ≥ 4
    · rw [if_pos h4, decide_eq_false (by omega)]; simp
    · rw [if_neg h4, decide_eq_true (show i < 4 by omega), impl_LabelOk_eq _ _ (by omega) (by omega) _ (by omega) (by omega)]
      simp only [Option.bind_some, Bool.true_and]
      by_cases hL : labelOk (rd_T86 l i).f0 (rd_T86 l i).f1 = true
      · rw [if_pos hL]
        by_cases hz : i = 0
        · have e : setB l i = true := by unfold setB; rw [hL, decide_eq_true hz]; rfl
          rw [if_neg (by omega), if_pos e]
        · have e : setB l i = Op.bytesLess (rd_T86 l (i - 1)).f0.toList (rd_T86 l i).f0.toList := by simp [setB, hL, hz]
          rw [if_pos (by omega), w64 (x := i - 1) (by omega) (by omega), if_pos (by omega), if_pos (by omega), e]
      · have e : setB l i = false := by simp [setB, hL]
        rw [if_neg hL, if_neg (by simp [e])]
  · intro k _
    simp only [impl_SetOk.l0]
    rw [if_neg (by omega)]

/-! ### L2 -/
theorem sized_append (M : Nat) {a b : List S86} (ha : SizedL M a) (hb : SizedL M b) : SizedL M (a ++ b) := by
  intro x hx
  rcases List.mem_append.1 hx with h | h
  · exact ha x h
  · exact hb x h
theorem sized_one (M : Nat) {x y : ByteArray} (hx : x.size ≤ M) (hy : y.size ≤ M) : SizedL M [(⟨x, y⟩ : S86)] := by
  intro z hz
  rw [List.mem_singleton.1 hz]
  exact ⟨hx, hy⟩
theorem sized_set (M : Nat) {a : List S86} (ha : SizedL M a) (n : Nat) {x y : ByteArray} (hx : x.size ≤ M) (hy : y.size ≤ M) : SizedL M (a.set n (⟨x, y⟩ : S86)) := by
  intro z hz
  rcases List.mem_or_eq_of_mem_set hz with h | h
  · exact ha z h
  · rw [h]; exact ⟨hx, hy⟩
theorem l2Draw_l (b : List Int) (names : List ByteArray) (hn : names.length ≤ 4) (hs : ∀ s ∈ names, s.size ≤ 13) (d : Nat) : ∀ (k : Nat) (l : List S86) (j i h : Int), 0 ≤ j → j + d = (names.length : Int) → 1 ≤ l.length → l.length ≤ j + 1 → SizedL 13 l → CurOk b i → d < k →
    ∃ r i' h', spec_l2Draw.l0 k l names names.length j b i h = some (r, i', h') ∧ 1 ≤ r.length ∧ r.length ≤ names.length + 1 ∧ SizedL 13 r ∧ CurOk b i' := by
  induction d with
  | zero =>
    intro k l j i h h0 hd hl hl' hsz hc hk
    obtain ⟨k, rfl⟩ : ∃ m, k = m + 1 := ⟨k - 1, by omega⟩
    simp only [spec_l2Draw.l0]
    rw [if_neg (by omega)]
    exact ⟨_, _, _, rfl, hl, by omega, hsz, hc⟩
  | succ d ih =>
    intro k l j i h h0 hd hl hl' hsz hc hk
    obtain ⟨k, rfl⟩ : ∃ m, k = m + 1 := ⟨k - 1, by omega⟩
    simp only [spec_l2Draw.l0]
    rw [if_pos (by omega), if_pos h0, if_pos (by omega)]
    obtain ⟨t, i1, h1, e1, c1⟩ := l1Once_ok b i h 4 hc
    rw [e1]
    simp only [Option.bind_some]
    by_cases ht : t = true
    · rw [if_pos ht]
      obtain ⟨s, i2, h2, e2, hm, c2⟩ := l1Str_ok b i1 h1 (([(⟨#[49]⟩ : ByteArray), (⟨#[50]⟩ : ByteArray)] : List ByteArray)) (by decide) c1
      rw [e2]
      simp only [Option.bind_some]
      rw [if_pos (by omega), w64 (x := j + 1) (by omega) (by omega)]
      have hss : s.size ≤ 13 := by
        simp only [List.mem_cons, List.not_mem_nil, or_false] at hm
        rcases hm with rfl | rfl <;> decide
      exact ih k _ _ _ _ (by omega) (by omega) (by simp) (by simp; omega) (sized_append 13 hsz (sized_one 13 (hs _ (rdOf_mem _ _ _ h0 (by omega))) hss)) c2 (by omega)
    · rw [if_neg ht, w64 (x := j + 1) (by omega) (by omega)]
      exact ih k _ _ _ _ (by omega) (by omega) hl (by omega) hsz c1 (by omega)
theorem l2Draw_ok (b : List Int) (i h : Int) (k : Nat) (hk : 5 < k) (hc : CurOk b i) : ∃ r i' h', spec_l2Draw.f k b i h = some (r, i', h') ∧ 1 ≤ r.length ∧ r.length ≤ 4 ∧ SizedL 13 r ∧ CurOk b i' := by
  unfold spec_l2Draw.f
  obtain ⟨s, i2, h2, e2, hm, c2⟩ := l1Str_ok b i h (([(⟨#[97]⟩ : ByteArray), (⟨#[98]⟩ : ByteArray), (⟨#[99]⟩ : ByteArray)] : List ByteArray)) (by decide) hc
  have hss : s.size ≤ 13 := by
    simp only [List.mem_cons, List.not_mem_nil, or_false] at hm
    rcases hm with rfl | rfl | rfl <;> decide
  rw [e2]
  simp only [Option.bind_some]
  exact l2Draw_l b _ (by decide) (by
    intro s hs
    simp only [List.mem_cons, List.not_mem_nil, or_false] at hs
    rcases hs with rfl | rfl | rfl <;> decide) 3 k _ 0 _ _ (by omega) (by decide) (by simp) (by simp) (sized_one 13 (by decide) hss) c2 (by omega)

/-! ### L1Names -/
theorem l1Names_ok (b : List Int) (i h : Int) (hc : CurOk b i) : ∃ s i' h', spec_l1Names.f b i h = some (s, i', h') ∧ s.size ≤ 13 ∧ CurOk b i' := by
  unfold spec_l1Names.f
  obtain ⟨s, i2, h2, e2, hm, c2⟩ := l1Str_sz b i h (([(⟨#[97, 112, 112]⟩ : ByteArray), (⟨#[104, 111, 115, 116]⟩ : ByteArray), (⟨#[115, 101, 118]⟩ : ByteArray), (⟨#[122, 111, 110, 101]⟩ : ByteArray)] : List ByteArray)) (by decide) (by decide) hc
  rw [e2]
  exact ⟨_, _, _, rfl, hm, c2⟩

/-! ### L1AnyName -/
theorem l1AnyName_ok (b : List Int) (i h : Int) (hc : CurOk b i) : ∃ s i' h', spec_l1AnyName.f b i h = some (s, i', h') ∧ s.size ≤ 13 ∧ CurOk b i' := by
  unfold spec_l1AnyName.f
  obtain ⟨t, i1, h1, e1, c1⟩ := l1Once_ok b i h 2 hc
  rw [e1]
  simp only [Option.bind_some]
  by_cases ht : t = true
  · rw [if_pos ht]
    obtain ⟨s, i2, h2, e2, hm, c2⟩ := l1Names_ok b i1 h1 c1
    rw [e2]
    exact ⟨_, _, _, rfl, hm, c2⟩
  · rw [if_neg ht]
    obtain ⟨s, i2, h2, e2, hm, c2⟩ := l1Str_sz b i1 h1 (([(⟨#[]⟩ : ByteArray), (⟨#[65]⟩ : ByteArray), (⟨#[110, 105, 110, 101, 99, 104, 97, 114, 115]⟩ : ByteArray), (⟨#[101, 105, 103, 104, 116, 97, 98, 99]⟩ : ByteArray), (⟨#[97, 32, 98]⟩ : ByteArray), (⟨#[97, 49]⟩ : ByteArray)] : List ByteArray)) (by decide) (by decide) c1
    rw [e2]
    exact ⟨_, _, _, rfl, hm, c2⟩

/-! ### L1Plain -/
theorem l1Plain_ok (b : List Int) (i h : Int) (hc : CurOk b i) : ∃ s i' h', spec_l1Plain.f b i h = some (s, i', h') ∧ s.size ≤ 13 ∧ CurOk b i' := by
  unfold spec_l1Plain.f
  obtain ⟨s, i2, h2, e2, hm, c2⟩ := l1Str_sz b i h (([(⟨#[97]⟩ : ByteArray), (⟨#[98]⟩ : ByteArray), (⟨#[120, 32, 121]⟩ : ByteArray), (⟨#[]⟩ : ByteArray), (⟨#[99, 114, 105, 116]⟩ : ByteArray), (⟨#[125, 45]⟩ : ByteArray)] : List ByteArray)) (by decide) (by decide) hc
  rw [e2]
  exact ⟨_, _, _, rfl, hm, c2⟩

/-! ### L1AnyPlain -/
theorem l1AnyPlain_ok (b : List Int) (i h : Int) (hc : CurOk b i) : ∃ s i' h', spec_l1AnyPlain.f b i h = some (s, i', h') ∧ s.size ≤ 13 ∧ CurOk b i' := by
  unfold spec_l1AnyPlain.f
  obtain ⟨t, i1, h1, e1, c1⟩ := l1Once_ok b i h 2 hc
  rw [e1]
  simp only [Option.bind_some]
  by_cases ht : t = true
  · rw [if_pos ht]
    obtain ⟨s, i2, h2, e2, hm, c2⟩ := l1Plain_ok b i1 h1 c1
    rw [e2]
    exact ⟨_, _, _, rfl, hm, c2⟩
  · rw [if_neg ht]
    obtain ⟨s, i2, h2, e2, hm, c2⟩ := l1Str_sz b i1 h1 (([(⟨#[34]⟩ : ByteArray), (⟨#[92]⟩ : ByteArray), (⟨#[127]⟩ : ByteArray), (⟨#[31]⟩ : ByteArray), (⟨#[116, 119, 101, 108, 118, 101, 32, 98, 121, 116, 101, 115]⟩ : ByteArray), (⟨#[116, 104, 105, 114, 116, 101, 101, 110, 98, 121, 116, 101, 115]⟩ : ByteArray), (⟨#[126]⟩ : ByteArray), (⟨#[125]⟩ : ByteArray), (⟨#[44, 32, 98, 61]⟩ : ByteArray), (⟨#[125, 32, 49, 45, 50]⟩ : ByteArray)] : List ByteArray)) (by decide) (by decide) c1
    rw [e2]
    exact ⟨_, _, _, rfl, hm, c2⟩

/-! ### L2Any -/
theorem l2Any_ok (b : List Int) (i h : Int) (k : Nat) (hk : 5 < k) (hc : CurOk b i) : ∃ r i' h', spec_l2Any.f k b i h = some (r, i', h') ∧ r.length ≤ 8 ∧ SizedL 13 r ∧ CurOk b i' := by
  unfold spec_l2Any.f
  obtain ⟨l, i1, h1, e1, hl1, hl4, hs, c1⟩ := l2Draw_ok b i h k hk hc
  obtain ⟨x, i2, h2, e2, hx0, hx1, c2⟩ := l1Below_ok b i1 h1 10 c1
  rw [e1]
  simp only [Option.bind_some]
  rw [e2]
  simp only [Option.bind_some]
  by_cases x0 : x = 0
  · rw [if_pos x0]
    obtain ⟨s, i3, h3, e3, hs3, c3⟩ := l1AnyName_ok b i2 h2 c2
    obtain ⟨t, i4, h4, e4, hs4, c4⟩ := l1AnyPlain_ok b i3 h3 c3
    rw [e3]
    simp only [Option.bind_some]
    rw [e4]
    simp only [Option.bind_some]
    rw [if_pos (by omega)]
    exact ⟨_, _, _, rfl, by simp; omega, sized_append 13 hs (sized_one 13 hs3 hs4), c4⟩
  rw [if_neg x0]
  by_cases x1 : x = 1
  · rw [if_pos x1, if_pos (by simp; omega)]
    exact ⟨_, _, _, rfl, by simp; omega, sized_append 13 (sized_one 13 (by decide) (by decide)) hs, c2⟩
  rw [if_neg x1]
  by_cases x2 : x = 2
  · rw [if_pos x2, if_pos (by omega), if_pos (by omega)]
    have hm := hs _ (rd_mem l 0 (by omega) (by omega))
    exact ⟨_, _, _, rfl, by simp; omega, sized_append 13 hs (sized_one 13 hm.1 hm.2), c2⟩
  rw [if_neg x2]
  by_cases x3 : x = 3
  · rw [if_pos x3, if_pos (by simp; omega)]
    refine ⟨_, _, _, rfl, by simp; omega, sized_append 13 hs ?_, c2⟩
    intro z hz
    simp only [List.mem_cons, List.not_mem_nil, or_false] at hz
    rcases hz with rfl | rfl | rfl | rfl <;> exact ⟨by decide, by decide⟩
  rw [if_neg x3]
  by_cases x4 : x = 4
  · rw [if_pos x4]
    obtain ⟨t, i4, h4, e4, hs4, c4⟩ := l1AnyPlain_ok b i2 h2 c2
    have hm := hs _ (rd_mem l 0 (by omega) (by omega))
    rw [e4]
    simp only [Option.bind_some]
    rw [if_pos (by omega)]
    exact ⟨_, _, _, rfl, by simp; omega, sized_set 13 hs _ hm.1 hs4, c4⟩
  rw [if_neg x4]
  by_cases x5 : x = 5
  · rw [if_pos x5]
    exact ⟨_, _, _, rfl, by simp, fun z hz => by simp at hz, c2⟩
  rw [if_neg x5]
  exact ⟨_, _, _, rfl, by omega, hs, c2⟩

/-! ### CurInt -/
theorem l1Int_ok (b : List Int) (i h : Int) (l : List Int) (hl : 0 < l.length) (hc : CurOk b i) : ∃ s i' h', spec_l1Int.f b i h l = some (s, i', h') ∧ s ∈ l ∧ CurOk b i' := by
  obtain ⟨x, i1, h1, e, h0, hn, c⟩ := l1Below_ok b i h l.length hc
  unfold spec_l1Int.f
  rw [e]
  simp only [Option.bind_some]
  rw [if_pos h0, if_pos (hn (by omega))]
  exact ⟨_, _, _, rfl, rd_mem_int _ _ h0 (hn (by omega)), c⟩

/-! ### SetTextS -/
def txt (s : ByteArray) (x : S86) : ByteArray := (((s ++ x.f0) ++ (⟨#[61, 34]⟩ : ByteArray)) ++ x.f1) ++ (⟨#[34]⟩ : ByteArray)
def restB : List S86 → ByteArray → ByteArray
  | [], s => s ++ (⟨#[125]⟩ : ByteArray)
  | x :: l, s => restB l (txt (s ++ (⟨#[44, 32]⟩ : ByteArray)) x)
def textOf : List S86 → ByteArray
  | [] => (⟨#[123]⟩ : ByteArray) ++ (⟨#[125]⟩ : ByteArray)
  | x :: l => restB l (txt (⟨#[123]⟩ : ByteArray) x)
def setText (l : List S86) : ByteArray := if setOk l = true then textOf l else (⟨#[]⟩ : ByteArray)
theorem setOk_le (l : List S86) (h : setOk l = true) : l.length ≤ 4 := by
  unfold setOk at h
  rw [Bool.and_eq_true] at h
  exact of_decide_eq_true h.2
theorem sz2 : ∀ a : UInt8, ∀ b : UInt8, (⟨#[a, b]⟩ : ByteArray).size = 2 := fun _ _ => rfl
theorem sz1 : ∀ a : UInt8, (⟨#[a]⟩ : ByteArray).size = 1 := fun _ => rfl
theorem spec_SetText_l (l : List S86) (hl : l.length ≤ 4) (hs : SizedL 1048576 l) (d : Nat) : ∀ (k : Nat) (s : ByteArray) (i : Int), 0 < i → i + d = (l.length : Int) → s.size + d * 4194304 ≤ 1099511627776 → d < k →
    spec_SetText.l0 k l s i = some (restB (l.drop i.toNat) s) := by
  induction d with
  | zero =>
    intro k s i h0 hd hsz hk
    obtain ⟨k, rfl⟩ : ∃ m, k = m + 1 := ⟨k - 1, by omega⟩
    simp only [spec_SetText.l0]
    rw [if_neg (by omega), if_pos (by omega), List.drop_eq_nil_of_le (by omega)]; rfl
  | succ d ih =>
    intro k s i h0 hd hsz hk
    obtain ⟨k, rfl⟩ : ∃ m, k = m + 1 := ⟨k - 1, by omega⟩
    have hm := hs _ (rd_mem l i (by omega) (by omega))
    simp only [spec_SetText.l0]
    rw [if_pos (by omega), if_pos (by omega), if_pos (by omega), if_pos (by omega)]
    rw [if_pos (by simp only [ByteArray.size_append, sz2, sz1]; omega), if_pos (by simp only [ByteArray.size_append, sz2, sz1]; omega), if_pos (by simp only [ByteArray.size_append, sz2, sz1]; omega), if_pos (by simp only [ByteArray.size_append, sz2, sz1]; omega)]
    rw [w64 (x := i + 1) (by omega) (by omega), drop_cons z86 l i (by omega) (by omega)]
    exact ih k _ (i + 1) (by omega) (by omega) (by simp only [ByteArray.size_append, sz2, sz1]; omega) (by omega)
theorem spec_SetText_eq (l : List S86) (hl : l.length ≤ 1048576) (hs : SizedL 1048576 l) (k : Nat) (hk : 4194304 < k) : spec_SetText.f k l = some (setText l) := by
  unfold spec_SetText.f setText
  rw [spec_SetOk_eq l hl 1048576 (by omega) hs k (by omega)]
  simp only [Option.bind_some]
  by_cases h : setOk l = true
  · rw [if_pos h, if_pos h]
    have h4 := setOk_le l h
    obtain ⟨k, rfl⟩ : ∃ m, k = m + 1 := ⟨k - 1, by omega⟩
    cases l with
    | nil =>
      simp only [spec_SetText.l0]
      rw [if_neg (by simp), if_pos (by decide)]; rfl
    | cons x l =>
      have hm := hs x List.mem_cons_self
      have e := spec_SetText_l (x :: l) h4 hs l.length k (txt (⟨#[123]⟩ : ByteArray) x) 1 (by omega) (by simp; omega) (by simp only [txt, ByteArray.size_append, sz2, sz1]; simp at h4; omega) (by simp at h4; omega)
      simp only [spec_SetText.l0]
      have hr : rd_T86 (x :: l) 0 = x := rfl
      rw [if_pos (by simp only [List.length_cons]; omega), if_neg (by omega), if_pos (by omega), hr]
      rw [if_pos (by simp only [ByteArray.size_append, sz2, sz1]; omega), if_pos (by simp only [ByteArray.size_append, sz2, sz1]; omega), if_pos (by simp only [ByteArray.size_append, sz2, sz1]; omega), if_pos (by simp only [ByteArray.size_append, sz2, sz1]; omega)]
      rw [w64 (x := 0 + 1) (by omega) (by omega)]
      exact e
  · rw [if_neg h, if_neg h]

/-! ### SetText -/
def txt1 (x : S86) : ByteArray := ((x.f0 ++ (⟨#[61, 34]⟩ : ByteArray)) ++ x.f1) ++ (⟨#[34]⟩ : ByteArray)
theorem impl_SetText_l (l : List S86) (hl : l.length ≤ 4) (hs : SizedL 1048576 l) (d : Nat) : ∀ (k : Nat) (out : List ByteArray) (i : Int), 0 ≤ i → i + d = (l.length : Int) → out.length ≤ i.toNat → d < k →
    impl_SetText.l0 k out l l.length i = impl_SetText.l0 (k - d) (out ++ (l.drop i.toNat).map txt1) l l.length l.length := by
  induction d with
  | zero =>
    intro k out i h0 hd ho hk
    obtain rfl : i = (l.length : Int) := by omega
    rw [List.drop_eq_nil_of_le (by omega)]
    simp
  | succ d ih =>
    intro k out i h0 hd ho hk
    obtain ⟨k, rfl⟩ : ∃ m, k = m + 1 := ⟨k - 1, by omega⟩
    have hm := hs _ (rd_mem l i (by omega) (by omega))
    rw [drop_cons z86 l i h0 (by omega), List.map_cons]
    have e : k + 1 - (d + 1) = k - d := by omega
    rw [e]
    conv => lhs; unfold impl_SetText.l0
    rw [if_pos (by omega), if_pos (by omega), if_pos (by omega)]
    rw [if_pos (by omega), if_pos (by simp only [ByteArray.size_append, sz2, sz1]; omega), if_pos (by simp only [ByteArray.size_append, sz2, sz1]; omega), if_pos (by omega)]
    rw [w64 (x := i + 1) (by omega) (by omega), ih k _ (i + 1) (by omega) (by omega) (by simp; omega) (by omega), List.append_assoc]
    rfl
theorem rest_list (l : List S86) : ∀ s : ByteArray, (restB l s).data.toList = s.data.toList ++ Lib.joinTail [44, 32] ((l.map txt1).map (·.data.toList)) ++ [125] := by
  induction l with
  | nil => intro s; simp [restB, Lib.joinTail]
  | cons x l ih =>
    intro s
    simp only [restB]
    rw [ih]
    simp [txt, txt1, Lib.joinTail]
theorem text_join (l : List S86) : ((⟨#[123]⟩ : ByteArray) ++ Foreign.joinBytes (l.map txt1) (⟨#[44, 32]⟩ : ByteArray)) ++ (⟨#[125]⟩ : ByteArray) = textOf l := by
  have hinj : ∀ a b : ByteArray, a.data.toList = b.data.toList → a = b := by
    intro a b h
    cases a
    cases b
    congr
    simpa using h
  apply hinj
  cases l with
  | nil => simp [textOf, Foreign.joinBytes, Lib.join_nil]
  | cons x l =>
    simp only [textOf]
    rw [rest_list]
    simp only [Foreign.joinBytes, List.map_cons, Lib.join_cons]
    simp [txt, txt1]
theorem sum_txt (l : List S86) (hs : SizedL 1048576 l) : (Lib.joinTail [44, 32] ((l.map txt1).map (·.data.toList))).length ≤ l.length * 4194304 := by
  induction l with
  | nil => simp [Lib.joinTail]
  | cons x l ih =>
    have hm := hs x List.mem_cons_self
    have := ih (fun y hy => hs y (List.mem_cons_of_mem _ hy))
    have e : (txt1 x).data.toList.length = x.f0.size + 2 + x.f1.size + 1 := by
      have : (txt1 x).data.toList.length = (txt1 x).size := by rw [Array.length_toList]; rfl
      rw [this]
      simp only [txt1, ByteArray.size_append, sz2, sz1]
    have e2 : (Lib.joinTail [44, 32] (((x :: l).map txt1).map (·.data.toList))).length = 2 + (txt1 x).data.toList.length + (Lib.joinTail [44, 32] ((l.map txt1).map (·.data.toList))).length := by
      simp [Lib.joinTail]
      omega
    rw [e2, e, List.length_cons, Nat.succ_mul]
    omega
theorem join_some (l : List S86) (hl : l.length ≤ 4) (hs : SizedL 1048576 l) : strings_Join.f (l.map txt1) (⟨#[44, 32]⟩ : ByteArray) = some (Foreign.joinBytes (l.map txt1) (⟨#[44, 32]⟩ : ByteArray)) ∧ (Foreign.joinBytes (l.map txt1) (⟨#[44, 32]⟩ : ByteArray)).size ≤ 1099511627776 := by
  have hlen : (Lib.join ((l.map txt1).map (·.data.toList)) (⟨#[44, 32]⟩ : ByteArray).data.toList).length ≤ 1073741824 := by
    cases l with
    | nil => simp [Lib.join_nil]
    | cons x l =>
      have hm := hs x List.mem_cons_self
      have h2 := sum_txt l (fun y hy => hs y (List.mem_cons_of_mem _ hy))
      have e : (txt1 x).data.toList.length = x.f0.size + 2 + x.f1.size + 1 := by
        have : (txt1 x).data.toList.length = (txt1 x).size := by rw [Array.length_toList]; rfl
        rw [this]
        simp only [txt1, ByteArray.size_append, sz2, sz1]
      simp only [List.map_cons, Lib.join_cons, List.length_append]
      have h3 : (Lib.joinTail (⟨#[44, 32]⟩ : ByteArray).data.toList ((l.map txt1).map (·.data.toList))).length ≤ l.length * 4194304 := h2
      rw [e]
      simp at hl
      omega
  constructor
  · unfold strings_Join.f Foreign.joinOf
    rw [if_pos ⟨by simp; omega, by omega⟩]
  · have : (Foreign.joinBytes (l.map txt1) (⟨#[44, 32]⟩ : ByteArray)).size = (Lib.join ((l.map txt1).map (·.data.toList)) (⟨#[44, 32]⟩ : ByteArray).data.toList).length := by
      simp [Foreign.joinBytes, ByteArray.size]
    omega
theorem impl_SetText_eq (l : List S86) (hl : l.length ≤ 1048576) (hs : SizedL 1048576 l) (k : Nat) (hk : 4194304 < k) : impl_SetText.f k l = some (setText l) := by
  unfold impl_SetText.f setText
  rw [impl_SetOk_eq l hl 1048576 (by omega) hs k (by omega)]
  simp only [Option.bind_some]
  by_cases h : setOk l = true
  · rw [if_pos h, if_pos h]
    have h4 := setOk_le l h
    obtain ⟨j1, j2⟩ := join_some l h4 hs
    rw [impl_SetText_l l h4 hs l.length k [] 0 (by omega) (by omega) (by simp) (by omega)]
    obtain ⟨m, hm⟩ : ∃ m, k - l.length = m + 1 := ⟨k - l.length - 1, by omega⟩
    rw [hm]
    simp only [impl_SetText.l0]
    rw [if_neg (by omega)]
    have e : ([] : List ByteArray) ++ (l.drop (0 : Int).toNat).map txt1 = l.map txt1 := by simp
    rw [e, j1]
    simp only [Option.bind_some]
    rw [if_pos (by omega), if_pos (by simp only [ByteArray.size_append, sz1]; omega), text_join]
  · rw [if_neg h, if_neg h]

/-! ### Sum -/
theorem bits_xor_nat (k : IntKind) (j : Nat) (hj : j ≤ k.bits) (hk : ∀ n : Int, 0 ≤ n → n < 2 ^ j → k.wrap n = n) (a b : Nat) (ha : a < 2 ^ j) (hb : b < 2 ^ j) :
    Go.bits .xor k a b = ((a ^^^ b : Nat) : Int) := by
  have hp : 2 ^ j ≤ 2 ^ k.bits := Nat.pow_le_pow_right (by decide) hj
  have ha' : a % 2 ^ k.bits = a := Nat.mod_eq_of_lt (Nat.lt_of_lt_of_le ha hp)
  have hb' : b % 2 ^ k.bits = b := Nat.mod_eq_of_lt (Nat.lt_of_lt_of_le hb hp)
  simp only [Go.bits, BitVec.ofInt_natCast, BitVec.toNat_xor, BitVec.toNat_ofNat, ha', hb']
  exact hk _ (Int.natCast_nonneg _) (by exact_mod_cast Nat.xor_lt_two_pow ha hb)
theorem xor_u32 (a b : Int) (ha : 0 ≤ a) (ha' : a < 4294967296) (hb : 0 ≤ b) (hb' : b < 4294967296) : Go.bits .xor .u32 a b = ((a.toNat ^^^ b.toNat : Nat) : Int) := by
  obtain ⟨a, rfl⟩ := Int.eq_ofNat_of_zero_le ha
  obtain ⟨b, rfl⟩ := Int.eq_ofNat_of_zero_le hb
  exact bits_xor_nat .u32 32 (by decide) (fun n h0 h1 => by rw [IntKind.wrap_u32]; omega) a b (by omega) (by omega)
theorem xor_i64 (a b : Int) (ha : 0 ≤ a) (ha' : a < 4294967296) (hb : 0 ≤ b) (hb' : b < 4294967296) : Go.bits .xor .i64 a b = ((a.toNat ^^^ b.toNat : Nat) : Int) := by
  obtain ⟨a, rfl⟩ := Int.eq_ofNat_of_zero_le ha
  obtain ⟨b, rfl⟩ := Int.eq_ofNat_of_zero_le hb
  exact bits_xor_nat .i64 32 (by decide) (fun n h0 h1 => by rw [IntKind.wrap_i64]; omega) a b (by omega) (by omega)
theorem xor_lt32 (a b : Int) (ha : 0 ≤ a) (ha' : a < 4294967296) (hb : 0 ≤ b) (hb' : b < 4294967296) : ((a.toNat ^^^ b.toNat : Nat) : Int) < 4294967296 := by
  have := Nat.xor_lt_two_pow (n := 32) (x := a.toNat) (y := b.toNat) (by omega) (by omega)
  omega
theorem mask32 (x : Int) (h0 : 0 ≤ x) (h1 : x < 9223372036854775808) : Go.bits .and .i64 x 4294967295 = x % 4294967296 :=
  Go.bits_mask .i64 63 (by decide) (fun n h0 h1 => by rw [IntKind.wrap_i64]; omega) 32 (by decide) x h0 h1
def sumStep (s : ByteArray) (n i : Int) : Int := (((n.toNat ^^^ (bt s i).toNat : Nat) : Int) * 16777619) % 4294967296
def sumFrom (s : ByteArray) : Nat → Int → Int → Int
  | 0, _, n => n
  | d + 1, i, n => sumFrom s d (i + 1) (sumStep s n i)
def sumOf (s : ByteArray) : Int := sumFrom s s.size 0 2166136261
theorem sumStep_range (s : ByteArray) (n i : Int) : 0 ≤ sumStep s n i ∧ sumStep s n i < 4294967296 := by unfold sumStep; omega
theorem sumFrom_range (s : ByteArray) (d : Nat) : ∀ i n : Int, 0 ≤ n → n < 4294967296 → 0 ≤ sumFrom s d i n ∧ sumFrom s d i n < 4294967296 := by
  induction d with
  | zero => intro i n h0 h1; exact ⟨h0, h1⟩
  | succ d ih => intro i n _ _; exact ih _ _ (sumStep_range s n i).1 (sumStep_range s n i).2
theorem sumOf_range (s : ByteArray) : 0 ≤ sumOf s ∧ sumOf s < 4294967296 := sumFrom_range s _ _ _ (by omega) (by omega)
theorem spec_sum_step (s : ByteArray) (n i : Int) (h0 : 0 ≤ n) (h1 : n < 4294967296) :
    Go.bits .and .i64 (wrap64 ((Go.bits .xor .i64 n (wrap64 (bt s i))) * 16777619)) 4294967295 = sumStep s n i := by
  have hb := bt_range s i
  rw [w64 (x := bt s i) (by omega) (by omega), xor_i64 n (bt s i) h0 h1 hb.1 (by omega)]
  have := xor_lt32 n (bt s i) h0 h1 hb.1 (by omega)
  rw [w64 (by omega) (by omega), mask32 _ (by omega) (by omega)]
  rfl
theorem impl_sum_step (s : ByteArray) (n i : Int) (h0 : 0 ≤ n) (h1 : n < 4294967296) :
    (((Go.bits .xor .u32 n ((bt s i) % 4294967296)) * 16777619) % 4294967296) = sumStep s n i := by
  have hb := bt_range s i
  rw [show bt s i % 4294967296 = bt s i by omega, xor_u32 n (bt s i) h0 h1 hb.1 (by omega)]
  rfl
theorem spec_Sum_l (s : ByteArray) (hn : s.size ≤ 140737488351232) (d : Nat) : ∀ (k : Nat) (n i : Int), 0 ≤ n → n < 4294967296 → 0 ≤ i → (s.size : Int) - i = d → d < k →
    spec_Sum.l0 k s n i = some (sumFrom s d i n) := by
  induction d with
  | zero =>
    intro k n i _ _ h0 hd hk
    obtain ⟨k, rfl⟩ : ∃ m, k = m + 1 := ⟨k - 1, by omega⟩
    simp only [spec_Sum.l0]; rw [if_neg (by omega)]; rfl
  | succ d ih =>
    intro k n i hn0 hn1 h0 hd hk
    obtain ⟨k, rfl⟩ : ∃ m, k = m + 1 := ⟨k - 1, by omega⟩
    simp only [spec_Sum.l0]; rw [if_pos (by omega), if_pos h0, spec_sum_step s n i hn0 hn1, w64 (x := i + 1) (by omega) (by omega)]
    exact ih k _ _ (sumStep_range s n i).1 (sumStep_range s n i).2 (by omega) (by omega) (by omega)
theorem impl_Sum_l (s : ByteArray) (hn : s.size ≤ 140737488351232) (d : Nat) : ∀ (k : Nat) (n i : Int), 0 ≤ n → n < 4294967296 → 0 ≤ i → (s.size : Int) - i = d → d < k →
    impl_Sum.l0 k s n i = some (sumFrom s d i n) := by
  induction d with
  | zero =>
    intro k n i _ _ h0 hd hk
    obtain ⟨k, rfl⟩ : ∃ m, k = m + 1 := ⟨k - 1, by omega⟩
    simp only [impl_Sum.l0]; rw [if_neg (by omega), w64 (by omega) (by omega)]; rfl
  | succ d ih =>
    intro k n i hn0 hn1 h0 hd hk
    obtain ⟨k, rfl⟩ : ∃ m, k = m + 1 := ⟨k - 1, by omega⟩
    simp only [impl_Sum.l0]; rw [if_pos (by omega), if_pos h0, impl_sum_step s n i hn0 hn1, w64 (x := i + 1) (by omega) (by omega)]
    exact ih k _ _ (sumStep_range s n i).1 (sumStep_range s n i).2 (by omega) (by omega) (by omega)
theorem spec_Sum_eq (s : ByteArray) (hn : s.size ≤ 140737488351232) (k : Nat) (hk : s.size < k) : spec_Sum.f k s = some (sumOf s) :=
  spec_Sum_l s hn s.size k _ _ (by omega) (by omega) (by omega) (by omega) hk
theorem impl_Sum_eq (s : ByteArray) (hn : s.size ≤ 140737488351232) (k : Nat) (hk : s.size < k) : impl_Sum.f k s = some (sumOf s) :=
  impl_Sum_l s hn s.size k _ _ (by omega) (by omega) (by omega) (by omega) hk

/-! ### Finger -/
theorem textOf_le (l : List S86) (hl : l.length ≤ 4) (hs : SizedL 1048576 l) : (textOf l).size ≤ 4194000 * 4 + 100 := by
  have key : ∀ (l : List S86), SizedL 1048576 l → ∀ s : ByteArray, (restB l s).size ≤ s.size + l.length * 2097160 + 1 := by
    intro l
    induction l with
    | nil => intro _ s; simp only [restB, ByteArray.size_append, sz1]; simp
    | cons x l ih =>
      intro hs s
      have hm := hs x List.mem_cons_self
      have := ih (fun y hy => hs y (List.mem_cons_of_mem _ hy)) (txt (s ++ (⟨#[44, 32]⟩ : ByteArray)) x)
      simp only [restB]
      simp only [txt, ByteArray.size_append, sz2, sz1] at this ⊢
      rw [List.length_cons, Nat.succ_mul]
      omega
  cases l with
  | nil => simp only [textOf, ByteArray.size_append, sz1]; omega
  | cons x l =>
    have hm := hs x List.mem_cons_self
    have := key l (fun y hy => hs y (List.mem_cons_of_mem _ hy)) (txt (⟨#[123]⟩ : ByteArray) x)
    simp only [textOf]
    simp only [txt, ByteArray.size_append, sz2, sz1] at this ⊢
    simp at hl
    omega
theorem setText_le (l : List S86) (hs : SizedL 1048576 l) : (setText l).size ≤ 16776100 := by
  unfold setText
  by_cases h : setOk l = true
  · rw [if_pos h]
    have := textOf_le l (setOk_le l h) hs
    omega
  · rw [if_neg h]
    exact Nat.zero_le _
def finger (l : List S86) : Int := Int.tmod (Go.bits .xor .i64 (sumOf (setText l)) (sumOf (setText l) / 65536)) 32
theorem spec_Finger_eq (l : List S86) (hl : l.length ≤ 1048576) (hs : SizedL 1048576 l) (k : Nat) (hk : 16777216 < k) : spec_Finger.f k l = some (finger l) := by
  have := setText_le l hs
  unfold spec_Finger.f finger
  rw [spec_SetText_eq l hl hs k (by omega)]
  simp only [Option.bind_some]
  rw [spec_Sum_eq _ (by omega) k (by omega)]
  rfl
theorem impl_Finger_eq (l : List S86) (hl : l.length ≤ 1048576) (hs : SizedL 1048576 l) (k : Nat) (hk : 16777216 < k) : impl_Finger.f k l = some (finger l) := by
  have := setText_le l hs
  unfold impl_Finger.f finger
  rw [impl_SetText_eq l hl hs k (by omega)]
  simp only [Option.bind_some]
  rw [impl_Sum_eq _ (by omega) k (by omega)]
  rfl

/-! ### DrawPrints -/
theorem textOf_leM (M : Nat) (l : List S86) (hl : l.length ≤ 4) (hs : SizedL M l) : (textOf l).size ≤ 4 * (2 * M + 6) + 3 := by
  have key : ∀ (l : List S86), SizedL M l → ∀ s : ByteArray, (restB l s).size ≤ s.size + l.length * (2 * M + 6) + 1 := by
    intro l
    induction l with
    | nil => intro _ s; simp only [restB, ByteArray.size_append, sz1]; simp
    | cons x l ih =>
      intro hs s
      have hm := hs x List.mem_cons_self
      have := ih (fun y hy => hs y (List.mem_cons_of_mem _ hy)) (txt (s ++ (⟨#[44, 32]⟩ : ByteArray)) x)
      simp only [restB]
      simp only [txt, ByteArray.size_append, sz2, sz1] at this ⊢
      rw [List.length_cons, Nat.succ_mul]
      omega
  cases l with
  | nil => simp only [textOf, ByteArray.size_append, sz1]; omega
  | cons x l =>
    have hm := hs x List.mem_cons_self
    have := key l (fun y hy => hs y (List.mem_cons_of_mem _ hy)) (txt (⟨#[123]⟩ : ByteArray) x)
    have hl' : l.length * (2 * M + 6) ≤ 3 * (2 * M + 6) := Nat.mul_le_mul_right _ (by simp at hl; omega)
    simp only [textOf]
    simp only [txt, ByteArray.size_append, sz2, sz1] at this ⊢
    omega
theorem setText_le13 (l : List S86) (hs : SizedL 13 l) : (setText l).size ≤ 1000 := by
  unfold setText
  by_cases h : setOk l = true
  · rw [if_pos h]
    have := textOf_leM 13 l (setOk_le l h) hs
    omega
  · rw [if_neg h]
    exact Nat.zero_le _
theorem sized13 {l : List S86} (h : SizedL 13 l) : SizedL 1048576 l := fun x hx => ⟨Nat.le_trans (h x hx).1 (by omega), Nat.le_trans (h x hx).2 (by omega)⟩
theorem DrawSetText_ok (b : List Int) (hb : b.length ≤ 140737488351232) (k : Nat) (hk : b.length + 8 < k) : ∃ x, spec_DrawSetText.f k b = some x ∧ x.length ≤ 8 ∧ SizedL 13 x := by
  unfold spec_DrawSetText.f
  obtain ⟨h, e, c⟩ := l1New_ok b hb k (by omega)
  rw [e]
  simp only [Option.bind_some]
  obtain ⟨x, i1, h1, e1, hx, hs, c1⟩ := l2Any_ok b 0 h k (by omega) c
  rw [e1]
  exact ⟨_, rfl, hx, hs⟩
theorem DrawFinger_ok (b : List Int) (hb : b.length ≤ 140737488351232) (k : Nat) (hk : b.length + 8 < k) : ∃ x, spec_DrawFinger.f k b = some x ∧ x.length ≤ 8 ∧ SizedL 13 x := by
  unfold spec_DrawFinger.f
  obtain ⟨h, e, c⟩ := l1New_ok b hb k (by omega)
  rw [e]
  simp only [Option.bind_some]
  obtain ⟨x, i1, h1, e1, hx, hs, c1⟩ := l2Any_ok b 0 h k (by omega) c
  rw [e1]
  exact ⟨_, rfl, hx, hs⟩
theorem DrawAlike_l (b : List Int) (x : List S86) (hx : x.length ≤ 4) (sx : SizedL 13 x) (d : Nat) : ∀ (k : Nat) (y : List S86) (n i h : Int), 0 ≤ n → n + d = 20 → y.length ≤ 4 → SizedL 13 y → CurOk b i → 16777216 + d < k →
    ∃ z, spec_DrawAlike.l0 k x y n b i h = some (x, z) ∧ z.length ≤ 4 ∧ SizedL 13 z := by
  induction d with
  | zero =>
    intro k y n i h h0 hd hy sy hc hk
    obtain ⟨k, rfl⟩ : ∃ m, k = m + 1 := ⟨k - 1, by omega⟩
    simp only [spec_DrawAlike.l0]
    rw [if_neg (by omega)]
    exact ⟨_, rfl, hy, sy⟩
  | succ d ih =>
    intro k y n i h h0 hd hy sy hc hk
    obtain ⟨k, rfl⟩ : ∃ m, k = m + 1 := ⟨k - 1, by omega⟩
    simp only [spec_DrawAlike.l0]
    rw [if_pos (by omega), spec_Finger_eq x (by omega) (sized13 sx) k (by omega), spec_Finger_eq y (by omega) (sized13 sy) k (by omega)]
    simp only [Option.bind_some]
    split
    · exact ⟨_, rfl, hy, sy⟩
    · obtain ⟨r, i1, h1, e1, _, hr, sr, c1⟩ := l2Draw_ok b i h k (by omega) hc
      rw [e1]
      simp only [Option.bind_some]
      rw [w64 (x := n + 1) (by omega) (by omega)]
      exact ih k r _ _ _ (by omega) (by omega) hr sr c1 (by omega)
theorem DrawAlike_ok (b : List Int) (hb : b.length ≤ 140737488351232) (k : Nat) (hk : b.length + 16777300 < k) : ∃ x y, spec_DrawAlike.f k b = some (x, y) ∧ x.length ≤ 4 ∧ SizedL 13 x ∧ y.length ≤ 4 ∧ SizedL 13 y := by
  unfold spec_DrawAlike.f
  obtain ⟨h, e, c⟩ := l1New_ok b hb k (by omega)
  rw [e]
  simp only [Option.bind_some]
  obtain ⟨x, i1, h1, e1, _, hx, sx, c1⟩ := l2Draw_ok b 0 h k (by omega) c
  rw [e1]
  simp only [Option.bind_some]
  obtain ⟨y, i2, h2, e2, _, hy, sy, c2⟩ := l2Draw_ok b i1 h1 k (by omega) c1
  rw [e2]
  simp only [Option.bind_some]
  obtain ⟨z, e3, hz, sz⟩ := DrawAlike_l b x hx sx 20 k y 0 i2 h2 (by omega) (by omega) hy sy c2 (by omega)
  exact ⟨x, z, e3, hx, sx, hz, sz⟩
theorem DrawSum_ok (b : List Int) (hb : b.length ≤ 140737488351232) (k : Nat) (hk : b.length + 16777300 < k) : ∃ x, spec_DrawSum.f k b = some x ∧ x.size ≤ 1000 := by
  unfold spec_DrawSum.f
  obtain ⟨h, e, c⟩ := l1New_ok b hb k (by omega)
  rw [e]
  simp only [Option.bind_some]
  obtain ⟨x, i1, h1, e1, _, hx, sx, c1⟩ := l2Draw_ok b 0 h k (by omega) c
  rw [e1]
  simp only [Option.bind_some]
  rw [spec_SetText_eq x (by omega) (sized13 sx) k (by omega)]
  simp only [Option.bind_some]
  obtain ⟨s, i2, h2, e2, hm, c2⟩ := l1Str_ok b i1 h1 (([(⟨#[]⟩ : ByteArray), (⟨#[97]⟩ : ByteArray), (⟨#[97, 98, 99]⟩ : ByteArray), setText x] : List ByteArray)) (by simp) c1
  rw [e2]
  refine ⟨_, rfl, ?_⟩
  have hst := setText_le13 x sx
  simp only [List.mem_cons, List.not_mem_nil, or_false] at hm
  rcases hm with rfl | rfl | rfl | rfl
  · show (0 : Nat) ≤ 1000; omega
  · show (1 : Nat) ≤ 1000; omega
  · show (3 : Nat) ≤ 1000; omega
  · exact hst
theorem DrawPartOf_ok (b : List Int) (hb : b.length ≤ 140737488351232) (k : Nat) (hk : b.length + 8 < k) : ∃ x y, spec_DrawPartOf.f k b = some (x, y) := by
  unfold spec_DrawPartOf.f
  obtain ⟨h, e, c⟩ := l1New_ok b hb k (by omega)
  rw [e]
  simp only [Option.bind_some]
  obtain ⟨x, i1, h1, e1, _, _, c1⟩ := l1Below_ok b 0 h 40 c
  rw [e1]
  simp only [Option.bind_some]
  obtain ⟨y, i2, h2, e2, _, _, c2⟩ := l1Below_ok b i1 h1 6 c1
  rw [e2]
  exact ⟨_, _, rfl⟩
theorem size_mk (l : List UInt8) : (⟨l.toArray⟩ : ByteArray).size = l.length := by show l.toArray.size = _; simp
theorem dlen1 (s : ByteArray) : s.data.toList.length = s.size := by rw [Array.length_toList]; rfl
theorem l3Bend_ok (b : List Int) (i h : Int) (s : ByteArray) (hs : s.size ≤ 1000) (hc : CurOk b i) : ∃ t i' h', spec_l3Bend.f b i h s = some (t, i', h') ∧ t.size ≤ 1000 := by
  unfold spec_l3Bend.f
  by_cases h0 : s.size = 0
  · rw [if_pos h0]; exact ⟨_, _, _, rfl, hs⟩
  rw [if_neg h0]
  obtain ⟨x, i1, h1, e1, hx0, hx1, c1⟩ := l1Below_ok b i h (s.size : Int) hc
  rw [e1]
  simp only [Option.bind_some]
  rw [if_pos ⟨hx0, hx1 (by omega), by omega⟩]
  obtain ⟨y, i2, h2, e2, _, _, c2⟩ := l1Below_ok b i1 h1 5 c1
  rw [e2]
  simp only [Option.bind_some]
  by_cases y0 : y = 0
  · rw [if_pos y0]
    obtain ⟨z, i3, h3, e3, _, _⟩ := l1Int_ok b i2 h2 [34, 61, 44, 32, 97, 123, 125, 200] (by decide) c2
    rw [e3]
    refine ⟨_, _, _, rfl, ?_⟩
    show (bendSet s x.toNat z).size ≤ 1000
    unfold bendSet
    rw [size_mk, List.length_set, dlen1]; exact hs
  rw [if_neg y0]
  by_cases y1 : y = 1
  · rw [if_pos y1]
    refine ⟨_, _, _, rfl, ?_⟩
    show (bendCut s x.toNat).size ≤ 1000
    unfold bendCut
    rw [size_mk, List.length_append, List.length_take, List.length_drop, dlen1]; omega
  rw [if_neg y1]
  exact ⟨_, _, _, rfl, hs⟩
theorem DrawParseSet_ok (b : List Int) (hb : b.length ≤ 140737488351232) (k : Nat) (hk : b.length + 16777300 < k) : ∃ x, spec_DrawParseSet.f k b = some x ∧ x.size ≤ 1000 := by
  unfold spec_DrawParseSet.f
  obtain ⟨h, e, c⟩ := l1New_ok b hb k (by omega)
  rw [e]
  simp only [Option.bind_some]
  obtain ⟨t, i1, h1, e1, c1⟩ := l1Once_ok b 0 h 4 c
  rw [e1]
  simp only [Option.bind_some]
  by_cases ht : t = true
  · rw [if_pos ht]
    obtain ⟨s, i2, h2, e2, hm, c2⟩ := l1Str_ok b i1 h1 (([(⟨#[]⟩ : ByteArray), (⟨#[123, 125]⟩ : ByteArray), (⟨#[123]⟩ : ByteArray), (⟨#[125]⟩ : ByteArray), (⟨#[123, 97, 112, 112, 61, 34, 97, 34, 125]⟩ : ByteArray), (⟨#[123, 97, 112, 112, 61, 34, 97, 34, 44, 32, 97, 112, 112, 61, 34, 98, 34, 125]⟩ : ByteArray), (⟨#[123, 98, 61, 34, 97, 34, 44, 32, 97, 61, 34, 98, 34, 125]⟩ : ByteArray), (⟨#[123, 97, 112, 112, 61, 97, 125]⟩ : ByteArray), (⟨#[123, 97, 112, 112, 61, 34, 97, 34, 44, 104, 111, 115, 116, 61, 34, 49, 34, 125]⟩ : ByteArray), (⟨#[123, 97, 112, 112, 61, 34, 97, 34, 44, 32, 125]⟩ : ByteArray), (⟨#[123, 61, 34, 97, 34, 125]⟩ : ByteArray), (⟨#[123, 97, 112, 112, 61, 34, 97, 34, 125, 32]⟩ : ByteArray)] : List ByteArray)) (by simp) c1
    rw [e2]
    refine ⟨_, rfl, ?_⟩
    have := (List.all_eq_true.1 (show List.all (([(⟨#[]⟩ : ByteArray), (⟨#[123, 125]⟩ : ByteArray), (⟨#[123]⟩ : ByteArray), (⟨#[125]⟩ : ByteArray), (⟨#[123, 97, 112, 112, 61, 34, 97, 34, 125]⟩ : ByteArray), (⟨#[123, 97, 112, 112, 61, 34, 97, 34, 44, 32, 97, 112, 112, 61, 34, 98, 34, 125]⟩ : ByteArray), (⟨#[123, 98, 61, 34, 97, 34, 44, 32, 97, 61, 34, 98, 34, 125]⟩ : ByteArray), (⟨#[123, 97, 112, 112, 61, 97, 125]⟩ : ByteArray), (⟨#[123, 97, 112, 112, 61, 34, 97, 34, 44, 104, 111, 115, 116, 61, 34, 49, 34, 125]⟩ : ByteArray), (⟨#[123, 97, 112, 112, 61, 34, 97, 34, 44, 32, 125]⟩ : ByteArray), (⟨#[123, 61, 34, 97, 34, 125]⟩ : ByteArray), (⟨#[123, 97, 112, 112, 61, 34, 97, 34, 125, 32]⟩ : ByteArray)] : List ByteArray)) (fun s => decide (s.size ≤ 1000)) = true by decide)) s hm
    exact of_decide_eq_true this
  · rw [if_neg ht]
    obtain ⟨x, i2, h2, e2, _, hx, sx, c2⟩ := l2Draw_ok b i1 h1 k (by omega) c1
    rw [e2]
    simp only [Option.bind_some]
    rw [spec_SetText_eq x (by omega) (sized13 sx) k (by omega)]
    simp only [Option.bind_some]
    obtain ⟨t, i3, h3, e3, hs⟩ := l3Bend_ok b i2 h2 (setText x) (setText_le13 x sx) c2
    rw [e3]
    exact ⟨_, rfl, hs⟩

/-! ### SameSet -/
def labEq (x y : S86) : Bool := (x.f0.toList == y.f0.toList) && (x.f1.toList == y.f1.toList)
def sameB (a b : List S86) (i : Int) : Bool := labEq (rd_T86 a i) (rd_T86 b i)
def sameSet (a b : List S86) : Bool := decide (a.length = b.length) && allFrom (sameB a b) a.length 0
theorem same_round (a b : List S86) (i : Int) (x : Option Bool) :
    (if (!((((rd_T86 a i).f0).toList) == (((rd_T86 b i).f0).toList)) || (!((((rd_T86 a i).f1).toList) == (((rd_T86 b i).f1).toList)))) = true then (some false) else x) = if sameB a b i = true then x else some false := by
  unfold sameB labEq
  cases ((rd_T86 a i).f0.toList == (rd_T86 b i).f0.toList) <;> cases ((rd_T86 a i).f1.toList == (rd_T86 b i).f1.toList) <;> simp
theorem spec_SameSet_eq (a b : List S86) (ha : a.length ≤ 140737488351232) (k : Nat) (hk : a.length < k) : spec_SameSet.f k a b = some (sameSet a b) := by
  unfold spec_SameSet.f sameSet
  by_cases h : a.length = b.length
  · rw [if_pos (by omega), decide_eq_true h, Bool.true_and]
    rw [all_loop (n := a.length) ha 0 (sameB a b) (fun k i => spec_SameSet.l0 k a b i) (some true) ?_ ?_ a.length k 0 (by omega) (by omega) (by omega) (by omega), bool_of_if]
    · intro k i _ h0 h1
      simp only [spec_SameSet.l0]
      rw [if_pos h1, if_pos h0, if_pos (by omega), same_round]
    · intro k _
      simp only [spec_SameSet.l0]
      rw [if_neg (by omega)]
  · rw [if_neg (by omega), decide_eq_false h]; rfl
theorem impl_SameSet_eq (a b : List S86) (ha : a.length ≤ 140737488351232) (k : Nat) (hk : a.length < k) : impl_SameSet.f k a b = some (sameSet a b) := by
  unfold impl_SameSet.f sameSet
  by_cases h : a.length = b.length
  · rw [if_pos (by omega), decide_eq_true h, Bool.true_and]
    rw [all_loop (n := a.length) ha 0 (sameB a b) (fun k i => impl_SameSet.l0 k a b a.length i) (some true) ?_ ?_ a.length k 0 (by omega) (by omega) (by omega) (by omega), bool_of_if]
    · intro k i _ h0 h1
      simp only [impl_SameSet.l0]
      rw [if_pos h1, if_pos h0, if_pos h1, if_pos (by omega), same_round]
    · intro k _
      simp only [impl_SameSet.l0]
      rw [if_neg (by omega)]
  · rw [if_neg (by omega), decide_eq_false h]; rfl

/-! ### Alike -/
def alike (a b : List S86) : Bool := !sameSet a b && (finger a == finger b)
theorem spec_Alike_eq (a b : List S86) (ha : a.length ≤ 1048576) (sa : SizedL 1048576 a) (hb : b.length ≤ 1048576) (sb : SizedL 1048576 b) (k : Nat) (hk : 16777216 < k) : spec_Alike.f k a b = some (alike a b) := by
  unfold spec_Alike.f alike
  rw [spec_SameSet_eq a b (by omega) k (by omega), spec_Finger_eq a ha sa k hk, spec_Finger_eq b hb sb k hk]
  cases sameSet a b <;> simp
theorem impl_Alike_eq (a b : List S86) (ha : a.length ≤ 1048576) (sa : SizedL 1048576 a) (hb : b.length ≤ 1048576) (sb : SizedL 1048576 b) (k : Nat) (hk : 16777216 < k) : impl_Alike.f k a b = some (alike a b) := by
  unfold impl_Alike.f alike
  rw [impl_SameSet_eq a b (by omega) k (by omega), impl_Finger_eq a ha sa k hk, impl_Finger_eq b hb sb k hk]
  cases sameSet a b <;> simp

/-! ### SameSetLaws -/
theorem sameSet_self (l : List S86) : sameSet l l = true := by
  unfold sameSet
  simp [allFrom_iff, sameB, labEq]
theorem labEq_comm (x y : S86) : labEq x y = labEq y x := by
  unfold labEq
  rw [Bool.beq_comm (a := x.f0.toList), Bool.beq_comm (a := x.f1.toList)]
theorem sameSet_comm (a b : List S86) : sameSet a b = sameSet b a := by
  unfold sameSet
  by_cases h : a.length = b.length
  · have hh : sameB a b = sameB b a := by funext i; exact labEq_comm _ _
    rw [hh, h]
  · rw [decide_eq_false h, decide_eq_false (fun e => h e.symm)]; rfl

/-! ### PartOf -/
def partOf (a n : Int) : Int := if n < 1 then 0 else if a < 0 then 0 else Int.tmod a n
theorem spec_PartOf_eq (a n : Int) : spec_PartOf.f a n = some (partOf a n) := by
  unfold spec_PartOf.f partOf
  by_cases h : n < 1
  · rw [if_pos h, if_pos h]
  · rw [if_neg h, if_neg h, if_neg (show ¬ n = 0 by omega)]
    split <;> rfl
theorem impl_PartOf_eq (a n : Int) : impl_PartOf.f a n = some (partOf a n) := by
  unfold impl_PartOf.f partOf
  by_cases h : n < 1
  · rw [if_pos h, if_pos h]
  · rw [if_neg h, if_neg h, if_neg (show ¬ n = 0 by omega)]
    split <;> rfl

/-! ### ParseCut -/
theorem dlen0 (s : ByteArray) : s.data.toList.length = s.size := by rw [Array.length_toList]; rfl
theorem index_sep (c : UInt8) (cs b : List UInt8) : ∀ a : List UInt8, c ∉ a → Go.Lib.index (a ++ (c :: cs ++ b)) (c :: cs) = a.length
  | [], _ => by
    have e : (c :: cs).isPrefixOf (c :: cs ++ b) = true := by rw [List.isPrefixOf_iff_prefix]; exact List.prefix_append _ _
    simp only [List.nil_append, List.cons_append] at e ⊢
    simp only [Go.Lib.index]
    rw [if_pos e]; rfl
  | x :: a, h => by
    have hx : c ≠ x := fun e => h (by rw [e]; exact List.mem_cons_self)
    have ih := index_sep c cs b a (fun hh => h (List.mem_cons_of_mem _ hh))
    simp only [List.cons_append] at ih ⊢
    simp only [Go.Lib.index]
    have e : (c :: cs).isPrefixOf (x :: (a ++ c :: (cs ++ b))) = false := by simp [List.isPrefixOf, hx]
    rw [if_neg (by rw [e]; decide), ih]
    have e2 : (((a.length : Nat) : Int) == -1) = false := by rw [beq_eq_false_iff_ne]; omega
    rw [if_neg (by rw [e2]; decide)]
    simp
theorem cut_sep (c : UInt8) (cs a b : List UInt8) (h : c ∉ a) : Go.Lib.cut (a ++ (c :: cs ++ b)) (c :: cs) = (a, b, true) := by
  unfold Go.Lib.cut
  rw [index_sep c cs b a h, if_pos (by omega)]
  simp
theorem cutOf_sep (c : UInt8) (cs a b : List UInt8) (h : c ∉ a) (hs : (a ++ (c :: cs ++ b)).length < 4294967281) :
    strings_Cut.f (⟨(a ++ (c :: cs ++ b)).toArray⟩ : ByteArray) (⟨(c :: cs).toArray⟩ : ByteArray) = some (⟨a.toArray⟩, ⟨b.toArray⟩, true) := by
  unfold strings_Cut.f Foreign.cutOf
  have e : (⟨(a ++ (c :: cs ++ b)).toArray⟩ : ByteArray).size = (a ++ (c :: cs ++ b)).length := by rw [← Array.size]; simp [ByteArray.size]
  rw [if_pos (by rw [e]; exact hs)]
  have e1 : (⟨(a ++ (c :: cs ++ b)).toArray⟩ : ByteArray).data.toList = a ++ (c :: cs ++ b) := rfl
  have e2 : (⟨(c :: cs).toArray⟩ : ByteArray).data.toList = c :: cs := rfl
  rw [e1, e2, cut_sep c cs a b h]
/-- The text as a list. -/
def seg (x : S86) : List UInt8 := x.f0.data.toList ++ ([61, 34] ++ (x.f1.data.toList ++ [34]))
def tailT : List S86 → List UInt8
  | [] => [125]
  | x :: l => [44, 32] ++ (seg x ++ tailT l)
theorem restB_list : ∀ (l : List S86) (s : ByteArray), (restB l s).data.toList = s.data.toList ++ tailT l
  | [], s => by simp [restB, tailT]
  | x :: l, s => by
    simp only [restB, tailT]
    rw [restB_list l]
    simp [txt, seg]
theorem textOf_list : ∀ l : List S86, (textOf l).data.toList = match l with
    | [] => [123, 125]
    | x :: l => 123 :: (seg x ++ tailT l)
  | [] => rfl
  | x :: l => by
    simp only [textOf]
    rw [restB_list]
    simp [txt, seg]
theorem size_list (l : List UInt8) : (⟨l.toArray⟩ : ByteArray).size = l.length := by rw [← dlen0]
theorem ext_take (s : ByteArray) (n : Nat) : (s.extract 0 n).data.toList = s.data.toList.take n := by
  simp [ByteArray.data_extract]
theorem ext_drop (s : ByteArray) (n : Nat) : (s.extract n s.size).data.toList = s.data.toList.drop n := by
  have e : s.size = s.data.toList.length := (dlen0 s).symm
  rw [e]
  simp [ByteArray.data_extract]
  exact List.take_of_length_le (by rw [List.length_drop, dlen0]; omega)
theorem ba_data {a b : ByteArray} (h : a.data.toList = b.data.toList) : a = b := by
  cases a; cases b
  simp at h
  rw [h]
theorem has_eq (s p : ByteArray) : stringslite_HasPrefix.f s p = some (decide (p.data.toList <+: s.data.toList)) := by
  unfold stringslite_HasPrefix.f
  by_cases h : (s.size : Int) ≥ (p.size : Int)
  · rw [if_pos h, if_pos (by omega), if_pos (by omega)]
    congr 1
    rw [Bool.eq_iff_iff, beq_iff_eq, decide_eq_true_iff]
    have e : ((p.size : Int) : Int).toNat = p.size := by omega
    rw [e]
    constructor
    · intro hh
      have := ba_ext hh
      rw [← this, ext_take]
      exact List.take_prefix _ _
    · intro hh
      have : s.extract 0 p.size = p := ba_data (by rw [ext_take]; rw [← dlen0]; exact (List.prefix_iff_eq_take.1 hh).symm)
      rw [this]
  · rw [if_neg h]
    congr 1
    symm
    apply decide_eq_false
    intro hh
    have := hh.length_le
    rw [dlen0, dlen0] at this
    omega
theorem cp_eq (s p : ByteArray) : strings_CutPrefix.f s p = some (if p.data.toList <+: s.data.toList then s.extract p.size s.size else s, decide (p.data.toList <+: s.data.toList)) := by
  unfold strings_CutPrefix.f stringslite_CutPrefix.f
  rw [has_eq]
  simp only [Option.bind_some]
  by_cases h : p.data.toList <+: s.data.toList
  · have := h.length_le
    rw [dlen0, dlen0] at this
    rw [decide_eq_true h, if_pos rfl, if_pos (by omega), if_pos (by omega), if_pos h]
    simp only [Option.bind_some]
    have e : ((p.size : Int) : Int).toNat = p.size := by omega
    rw [e]
  · rw [decide_eq_false h, if_neg (by decide), if_neg h]
    rfl
theorem cp_hit (p b : List UInt8) : strings_CutPrefix.f (⟨(p ++ b).toArray⟩ : ByteArray) (⟨p.toArray⟩ : ByteArray) = some (⟨b.toArray⟩, true) := by
  rw [cp_eq]
  have h : (⟨p.toArray⟩ : ByteArray).data.toList <+: (⟨(p ++ b).toArray⟩ : ByteArray).data.toList := List.prefix_append p b
  rw [if_pos h, decide_eq_true h]
  have e : (⟨(p ++ b).toArray⟩ : ByteArray).extract (⟨p.toArray⟩ : ByteArray).size (⟨(p ++ b).toArray⟩ : ByteArray).size = ⟨b.toArray⟩ := ba_data (by
    rw [ext_drop, size_list]
    show (p ++ b).drop p.length = b
    simp)
  rw [e]
theorem cp_miss (c d : UInt8) (b : List UInt8) (h : c ≠ d) : strings_CutPrefix.f (⟨(d :: b).toArray⟩ : ByteArray) (⟨#[c]⟩ : ByteArray) = some (⟨(d :: b).toArray⟩, false) := by
  rw [cp_eq]
  have h' : ¬ ((⟨#[c]⟩ : ByteArray).data.toList <+: (⟨(d :: b).toArray⟩ : ByteArray).data.toList) := by
    show ¬ ([c] <+: d :: b)
    intro hh
    obtain ⟨t, ht⟩ := hh
    simp at ht
    exact h ht.1
  rw [if_neg h', decide_eq_false h']

/-! ### ParseImpl -/
theorem mem_bt (s : ByteArray) (c : UInt8) (h : c ∈ s.data.toList) : ∃ i : Int, 0 ≤ i ∧ i < (s.size : Int) ∧ bt s i = (c.toNat : Int) := by
  obtain ⟨j, hj, e⟩ := List.mem_iff_getElem.1 h
  have hj' : j < s.size := by rw [dlen0] at hj; exact hj
  refine ⟨(j : Int), by omega, by omega, ?_⟩
  unfold bt
  rw [dif_pos (by simpa using hj')]
  simp [ByteArray.getElem_eq_getElem_data, ← e]
theorem name_no (s : ByteArray) (h : nameOk s = true) (c : UInt8) (hc : c ∈ s.data.toList) : 97 ≤ c.toNat ∧ c.toNat ≤ 122 := by
  obtain ⟨i, h0, h1, hb⟩ := mem_bt s c hc
  unfold nameOk at h
  rw [Bool.and_eq_true, allFrom_iff] at h
  have := h.1 i h0 (by omega)
  simp only [nameB, hb, Bool.not_eq_true', Bool.or_eq_false_iff, decide_eq_false_iff_not] at this
  omega
theorem plain_no (s : ByteArray) (h : plainOk s = true) (c : UInt8) (hc : c ∈ s.data.toList) : c.toNat ≠ 34 := by
  obtain ⟨i, h0, h1, hb⟩ := mem_bt s c hc
  unfold plainOk at h
  rw [Bool.and_eq_true, allFrom_iff] at h
  have := h.1 i h0 (by omega)
  simp only [plainB, hb, Bool.not_eq_true', Bool.or_eq_false_iff, decide_eq_false_iff_not] at this
  omega
theorem name_ne (s : ByteArray) (h : nameOk s = true) : ∃ c t, s.data.toList = c :: t := by
  unfold nameOk inB at h
  simp only [Bool.and_eq_true, decide_eq_true_iff] at h
  cases e : s.data.toList with
  | nil => have := dlen0 s; rw [e] at this; simp at this; omega
  | cons c t => exact ⟨c, t, rfl⟩
/-- One label's text is read off. -/
theorem j1_seg (x : S86) (more : List UInt8) (out : List S86) (hx : labelOk x.f0 x.f1 = true) (ho : out.length ≤ 4) (hs : (seg x ++ more).length < 4294967281) (k : Nat) :
    impl_setAt.j1 (k + 1) (⟨(seg x ++ more).toArray⟩ : ByteArray) out = impl_setAt.l0 k (⟨more.toArray⟩ : ByteArray) true (out ++ [x]) := by
  unfold labelOk at hx
  rw [Bool.and_eq_true] at hx
  have n1 : (61 : UInt8) ∉ x.f0.data.toList := fun hh => by
    have := name_no _ hx.1 _ hh
    simp at this
  have n2 : (34 : UInt8) ∉ x.f1.data.toList := fun hh => by
    have := plain_no _ hx.2 _ hh
    simp at this
  have e1 : seg x ++ more = x.f0.data.toList ++ (61 :: [34] ++ (x.f1.data.toList ++ (34 :: [] ++ more))) := by simp [seg]
  simp only [impl_setAt.j1]
  rw [e1] at hs ⊢
  have c1 := cutOf_sep 61 [34] x.f0.data.toList (x.f1.data.toList ++ (34 :: [] ++ more)) n1 hs
  have q1 : (⟨(61 :: [34]).toArray⟩ : ByteArray) = (⟨#[61, 34]⟩ : ByteArray) := rfl
  rw [q1] at c1
  rw [c1]
  simp only [Option.bind_some, if_true]
  have hs2 : (x.f1.data.toList ++ (34 :: [] ++ more)).length < 4294967281 := by simp at hs ⊢; omega
  have c2 := cutOf_sep 34 [] x.f1.data.toList more n2 hs2
  have q2 : (⟨(34 :: []).toArray⟩ : ByteArray) = (⟨#[34]⟩ : ByteArray) := rfl
  rw [q2] at c2
  rw [c2]
  simp only [Option.bind_some]
  rw [if_pos (by omega)]
theorem impl_tail : ∀ (l out : List S86) (k : Nat), (∀ x ∈ l, labelOk x.f0 x.f1 = true) → 0 < out.length → out.length + l.length ≤ 4 → (tailT l).length < 4294967281 → 2 * l.length + 1 < k →
    impl_setAt.l0 k (⟨(tailT l).toArray⟩ : ByteArray) true out = some (out ++ l, ⟨#[]⟩, true)
  | [], out, k, _, h0, h4, hs, hk => by
    obtain ⟨k, rfl⟩ : ∃ m, k = m + 1 := ⟨k - 1, by omega⟩
    simp only [impl_setAt.l0, if_true]
    have c := cp_hit [125] []
    have q : (⟨(([125] : List UInt8) ++ []).toArray⟩ : ByteArray) = (⟨(tailT ([] : List S86)).toArray⟩ : ByteArray) := rfl
    have q2 : (⟨([125] : List UInt8).toArray⟩ : ByteArray) = (⟨#[125]⟩ : ByteArray) := rfl
    rw [q, q2] at c
    rw [c]
    simp
  | x :: l, out, k, hl, h0, h4, hs, hk => by
    obtain ⟨k, rfl⟩ : ∃ m, k = m + 1 + 1 := ⟨k - 2, by omega⟩
    simp only [List.length_cons] at h4 hk
    simp only [impl_setAt.l0, if_true]
    have m1 := cp_miss 125 44 ([32] ++ (seg x ++ tailT l)) (by decide)
    have q1 : (44 :: ([32] ++ (seg x ++ tailT l))) = tailT (x :: l) := rfl
    rw [q1] at m1
    rw [m1]
    simp only [Option.bind_some, Bool.false_eq_true, if_false]
    rw [if_pos (by omega)]
    have c := cp_hit [44, 32] (seg x ++ tailT l)
    have q2 : (⟨([44, 32] : List UInt8).toArray⟩ : ByteArray) = (⟨#[44, 32]⟩ : ByteArray) := rfl
    have q3 : [44, 32] ++ (seg x ++ tailT l) = tailT (x :: l) := rfl
    rw [q2, q3] at c
    rw [c]
    simp only [Option.bind_some, if_true]
    have hs2 : (seg x ++ tailT l).length < 4294967281 := by
      have : (tailT (x :: l)).length = 2 + (seg x ++ tailT l).length := by rw [← q3]; simp; omega
      omega
    rw [if_neg (by omega), j1_seg x (tailT l) out (hl x List.mem_cons_self) (by omega) hs2]
    have ih := impl_tail l (out ++ [x]) k (fun y hy => hl y (List.mem_cons_of_mem _ hy)) (by simp) (by simp; omega) (by simp at hs2; omega) (by omega)
    rw [ih]
    simp

/-! ### ParseImpl2 -/
theorem labs_ok (l : List S86) (h : setOk l = true) : ∀ x ∈ l, labelOk x.f0 x.f1 = true := by
  intro x hx
  unfold setOk at h
  rw [Bool.and_eq_true, allFrom_iff] at h
  obtain ⟨j, hj, e⟩ := List.mem_iff_getElem.1 hx
  have := h.1 (j : Int) (by omega) (by omega)
  unfold setB at this
  rw [Bool.and_eq_true] at this
  have er : rd_T86 l (j : Int) = x := by
    unfold rd_T86
    rw [List.getD_eq_getElem?_getD, Int.toNat_natCast, List.getElem?_eq_getElem hj, e]; rfl
  rw [er] at this
  exact this.1
/-- What was written is found again by the program's parser. -/
theorem impl_setAt_text (l : List S86) (h : setOk l = true) (hs : (textOf l).size < 4294967281) (k : Nat) (hk : 2 * l.length + 3 < k) : impl_setAt.f k (textOf l) = some (l, ⟨#[]⟩, true) := by
  have hl := labs_ok l h
  have h4 := setOk_le l h
  have hsz : (textOf l).size = (textOf l).data.toList.length := (dlen0 _).symm
  unfold impl_setAt.f
  cases l with
  | nil =>
    obtain ⟨k, rfl⟩ : ∃ m, k = m + 1 := ⟨k - 1, by omega⟩
    have c := cp_hit [123] [125]
    have q : (⟨(([123] : List UInt8) ++ [125]).toArray⟩ : ByteArray) = textOf ([] : List S86) := rfl
    have q2 : (⟨([123] : List UInt8).toArray⟩ : ByteArray) = (⟨#[123]⟩ : ByteArray) := rfl
    rw [q, q2] at c
    rw [c]
    simp only [Option.bind_some, impl_setAt.l0, if_true]
    have d := cp_hit [125] []
    have q3 : (⟨(([125] : List UInt8) ++ []).toArray⟩ : ByteArray) = (⟨([125] : List UInt8).toArray⟩ : ByteArray) := rfl
    have q4 : (⟨([125] : List UInt8).toArray⟩ : ByteArray) = (⟨#[125]⟩ : ByteArray) := rfl
    rw [q3, q4] at d
    rw [q4, d]
    simp
  | cons x l =>
    obtain ⟨k, rfl⟩ : ∃ m, k = m + 1 + 1 := ⟨k - 2, by omega⟩
    have tl := textOf_list (x :: l)
    simp only at tl
    have q : textOf (x :: l) = (⟨([123] ++ (seg x ++ tailT l)).toArray⟩ : ByteArray) := ba_data (by rw [tl]; rfl)
    have hn : (seg x ++ tailT l).length < 4294967281 := by rw [hsz, tl] at hs; simp at hs ⊢; omega
    have c := cp_hit [123] (seg x ++ tailT l)
    have q2 : (⟨([123] : List UInt8).toArray⟩ : ByteArray) = (⟨#[123]⟩ : ByteArray) := rfl
    rw [q2] at c
    rw [q, c]
    simp only [Option.bind_some, impl_setAt.l0, if_true]
    have hx := hl x List.mem_cons_self
    have hx' := hx
    unfold labelOk at hx'
    rw [Bool.and_eq_true] at hx'
    obtain ⟨d, t, hd⟩ := name_ne _ hx'.1
    have hd2 := name_no _ hx'.1 d (by rw [hd]; exact List.mem_cons_self)
    have e1 : seg x ++ tailT l = d :: (t ++ ([61, 34] ++ (x.f1.data.toList ++ [34])) ++ tailT l) := by simp [seg, hd]
    have m1 := cp_miss 125 d (t ++ ([61, 34] ++ (x.f1.data.toList ++ [34])) ++ tailT l) (fun hh => by rw [← hh] at hd2; simp at hd2)
    rw [← e1] at m1
    rw [m1]
    simp only [Option.bind_some, Bool.false_eq_true, if_false, List.length_nil]
    rw [if_neg (by omega), j1_seg x (tailT l) [] hx (by simp) hn]
    simp only [List.length_cons] at h4 hk
    rw [impl_tail l ([] ++ [x]) k (fun y hy => hl y (List.mem_cons_of_mem _ hy)) (by simp) (by simp; omega) (by simp at hn; omega) (by omega)]
    simp

/-! ### ParseImpl3 -/
theorem cut_some (s sep : ByteArray) (hs : s.size < 4294967281) : ∃ a b f, strings_Cut.f s sep = some (a, b, f) ∧ a.size ≤ s.size ∧ b.size ≤ s.size := by
  unfold strings_Cut.f Foreign.cutOf
  rw [if_pos hs]
  refine ⟨_, _, _, rfl, ?_, ?_⟩
  · rw [size_list]
    unfold Go.Lib.cut
    split
    · simp only [List.length_take, dlen0]; omega
    · simp only [dlen0]; omega
  · rw [size_list]
    unfold Go.Lib.cut
    split
    · simp only [List.length_drop, dlen0]; omega
    · simp
theorem cp_some (s p : ByteArray) : ∃ a f, strings_CutPrefix.f s p = some (a, f) ∧ a.size ≤ s.size := by
  rw [cp_eq]
  refine ⟨_, _, rfl, ?_⟩
  split
  · have e := ext_drop s p.size
    have := congrArg List.length e
    rw [dlen0, List.length_drop, dlen0] at this
    omega
  · omega
def SetR (M : Nat) (r : List S86 × ByteArray × Bool) : Prop := r.1.length ≤ 6 ∧ SizedL M r.1
theorem sized_snoc (M : Nat) (out : List S86) (a b : ByteArray) (h : SizedL M out) (ha : a.size ≤ M) (hb : b.size ≤ M) : SizedL M (out ++ [(⟨a, b⟩ : S86)]) := by
  intro x hx
  rcases List.mem_append.1 hx with h1 | h1
  · exact h x h1
  · rw [List.mem_singleton.1 h1]; exact ⟨ha, hb⟩
theorem setAt_tot (M : Nat) (hM : M < 4294967281) (d : Nat) : ∀ (k : Nat) (s : ByteArray) (f : Bool) (out : List S86), s.size ≤ M → out.length + d = 5 → SizedL M out → 2 * d + 2 < k →
    ∃ r, impl_setAt.l0 k s f out = some r ∧ SetR M r := by
  induction d with
  | zero =>
    intro k s f out hs hd ho hk
    obtain ⟨k, rfl⟩ : ∃ m, k = m + 1 := ⟨k - 1, by omega⟩
    simp only [impl_setAt.l0]
    by_cases hf : f = true
    · rw [if_pos hf]
      obtain ⟨a, g, e, ha⟩ := cp_some s (⟨#[125]⟩ : ByteArray)
      rw [e]
      simp only [Option.bind_some]
      by_cases hg : g = true
      · rw [if_pos hg]; exact ⟨_, rfl, by show out.length ≤ 6; omega, ho⟩
      · rw [if_neg hg, if_pos (by omega)]
        obtain ⟨a2, g2, e2, ha2⟩ := cp_some s (⟨#[44, 32]⟩ : ByteArray)
        rw [e2]
        simp only [Option.bind_some]
        by_cases hg2 : g2 = true
        · rw [if_pos hg2, if_pos (by omega)]; exact ⟨_, rfl, by simp, fun x hx => by simp at hx⟩
        · rw [if_neg hg2]; exact ⟨_, rfl, by simp, fun x hx => by simp at hx⟩
    · rw [if_neg hf]; exact ⟨_, rfl, by simp, fun x hx => by simp at hx⟩
  | succ d ih =>
    intro k s f out hs hd ho hk
    obtain ⟨k, rfl⟩ : ∃ m, k = m + 1 + 1 := ⟨k - 2, by omega⟩
    have j1 : ∀ s' : ByteArray, s'.size ≤ M → ∃ r, impl_setAt.j1 (k + 1) s' out = some r ∧ SetR M r := by
      intro s' hs'
      simp only [impl_setAt.j1]
      obtain ⟨a, b, g, e, ha, hb⟩ := cut_some s' (⟨#[61, 34]⟩ : ByteArray) (by omega)
      rw [e]
      simp only [Option.bind_some]
      by_cases hg : g = true
      · rw [if_pos hg]
        obtain ⟨a2, b2, g2, e2, ha2, hb2⟩ := cut_some b (⟨#[34]⟩ : ByteArray) (by omega)
        rw [e2]
        simp only [Option.bind_some]
        rw [if_pos (by omega)]
        exact ih k _ _ _ (by omega) (by simp; omega) (sized_snoc M out a a2 ho (by omega) (by omega)) (by omega)
      · rw [if_neg hg, if_pos (by omega)]
        exact ih k _ _ _ (by omega) (by simp; omega) (sized_snoc M out a _ ho (by omega) (by show 0 ≤ M; omega)) (by omega)
    simp only [impl_setAt.l0]
    by_cases hf : f = true
    · rw [if_pos hf]
      obtain ⟨a, g, e, ha⟩ := cp_some s (⟨#[125]⟩ : ByteArray)
      rw [e]
      simp only [Option.bind_some]
      by_cases hg : g = true
      · rw [if_pos hg]; exact ⟨_, rfl, by show out.length ≤ 6; omega, ho⟩
      · rw [if_neg hg]
        by_cases h0 : (out.length : Int) > 0
        · rw [if_pos h0]
          obtain ⟨a2, g2, e2, ha2⟩ := cp_some s (⟨#[44, 32]⟩ : ByteArray)
          rw [e2]
          simp only [Option.bind_some]
          by_cases hg2 : g2 = true
          · rw [if_pos hg2]
            by_cases h4 : (out.length : Int) ≥ 4
            · rw [if_pos h4]; exact ⟨_, rfl, by simp, fun x hx => by simp at hx⟩
            · rw [if_neg h4]; exact j1 a2 (by omega)
          · rw [if_neg hg2]; exact ⟨_, rfl, by simp, fun x hx => by simp at hx⟩
        · rw [if_neg h0]; exact j1 s hs
    · rw [if_neg hf]; exact ⟨_, rfl, by simp, fun x hx => by simp at hx⟩
def Text (s : ByteArray) (l : List S86) : Prop := setOk l = true ∧ textOf l = s
theorem impl_ParseSet_hit (s : ByteArray) (hs : s.size ≤ 1048576) (l : List S86) (h : Text s l) (hsz : SizedL 1048576 l) (k : Nat) (hk : 4194304 < k) : impl_ParseSet.f k s = some (l, true) := by
  obtain ⟨h1, rfl⟩ := h
  have h4 := setOk_le l h1
  unfold impl_ParseSet.f
  rw [impl_setAt_text l h1 (by omega) k (by omega)]
  simp only [Option.bind_some, if_true]
  rw [impl_SetText_eq l (by omega) hsz k hk]
  simp only [Option.bind_some, setText]
  rw [if_pos h1, if_pos rfl]
theorem impl_ParseSet_miss (s : ByteArray) (hs : s.size ≤ 1048576) (h : ∀ l : List S86, ¬ Text s l) (k : Nat) (hk : 4194304 < k) : impl_ParseSet.f k s = some ([], false) := by
  unfold impl_ParseSet.f
  have key : ∃ r, impl_setAt.f k s = some r ∧ SetR 1048576 r ∧ (s.size = 0 → r.2.2 = false) := by
    unfold impl_setAt.f
    obtain ⟨a, f, e, ha⟩ := cp_some s (⟨#[123]⟩ : ByteArray)
    rw [e]
    simp only [Option.bind_some]
    obtain ⟨r, er, hr⟩ := setAt_tot 1048576 (by omega) 5 k a f [] (by omega) (by simp) (fun x hx => by simp at hx) (by omega)
    refine ⟨r, er, hr, fun h0 => ?_⟩
    have e' := cp_eq s (⟨#[123]⟩ : ByteArray)
    have hn : ¬ ((⟨#[123]⟩ : ByteArray).data.toList <+: s.data.toList) := by
      intro hh
      have := hh.length_le
      rw [dlen0 s] at this
      simp at this
      omega
    rw [if_neg hn, decide_eq_false hn, e] at e'
    have hf : f = false := by have := Option.some.inj e'; simp only [Prod.mk.injEq] at this; exact this.2
    subst hf
    obtain ⟨k, rfl⟩ : ∃ m, k = m + 1 := ⟨k - 1, by omega⟩
    simp only [impl_setAt.l0, Bool.false_eq_true, if_false] at er
    rw [← Option.some.inj er]
  obtain ⟨r, er, hr, h0⟩ := key
  rw [er]
  simp only [Option.bind_some]
  by_cases hb : r.2.2 = true
  · rw [if_pos hb, impl_SetText_eq r.1 (by have := hr.1; omega) hr.2 k hk]
    simp only [Option.bind_some]
    rw [if_neg]
    intro hh
    have he := ba_ext hh
    unfold setText at he
    by_cases ho : setOk r.1 = true
    · rw [if_pos ho] at he
      exact h r.1 ⟨ho, he⟩
    · rw [if_neg ho] at he
      have : s.size = 0 := by rw [← he]; rfl
      rw [h0 this] at hb
      cases hb
  · rw [if_neg hb]

/-! ### ParseSpec -/
def ff : List UInt8 → Nat → Option Nat
  | [], _ => none
  | x :: l, c => if x.toNat = c then some 0 else (ff l c).map (· + 1)
theorem ff_app (c : UInt8) (r : List UInt8) : ∀ a : List UInt8, c ∉ a → ff (a ++ c :: r) c.toNat = some a.length
  | [], _ => by simp [ff]
  | x :: a, h => by
    have hx : ¬ x.toNat = c.toNat := fun e => h (by
      have : x = c := by exact UInt8.toNat_inj.1 e
      rw [this]; exact List.mem_cons_self)
    simp only [List.cons_append, ff]
    rw [if_neg hx, ff_app c r a (fun hh => h (List.mem_cons_of_mem _ hh))]
    simp
theorem ff_lt : ∀ (l : List UInt8) (c p : Nat), ff l c = some p → p < l.length
  | [], c, p, h => by simp [ff] at h
  | x :: l, c, p, h => by
    simp only [ff] at h
    by_cases e : x.toNat = c
    · rw [if_pos e] at h; simp at h; subst h; simp
    · rw [if_neg e] at h
      cases hf : ff l c with
      | none => rw [hf] at h; simp at h
      | some q =>
        rw [hf] at h
        simp at h
        have := ff_lt l c q hf
        simp only [List.length_cons]
        omega
theorem bt_get' (s : ByteArray) (i : Nat) (h : i < s.size) : ∃ c, s.data.toList.drop i = c :: s.data.toList.drop (i + 1) ∧ bt s (i : Int) = (c.toNat : Int) := by
  have h' : i < s.data.toList.length := by rw [dlen0]; exact h
  refine ⟨s.data.toList[i], List.drop_eq_getElem_cons h', ?_⟩
  unfold bt
  rw [dif_pos (by simpa using h)]
  simp [ByteArray.getElem_eq_getElem_data]
def toAns (s : ByteArray) (at_ j : Nat) (o : Option Nat) : ByteArray × Int := match o with
  | some p => (s.extract at_ (j + p), ((j + p + 1 : Nat) : Int))
  | none => (⟨#[]⟩, -1)
theorem l3_loop (s : ByteArray) (hs : s.size ≤ 1048576) (at_ c : Nat) (d : Nat) : ∀ (k j : Nat), at_ ≤ j → j + d = s.size → d < k →
    spec_l3To.l0 k s (at_ : Int) (c : Int) (j : Int) = some (toAns s at_ j (ff (s.data.toList.drop j) c)) := by
  induction d with
  | zero =>
    intro k j h0 hd hk
    obtain ⟨k, rfl⟩ : ∃ m, k = m + 1 := ⟨k - 1, by omega⟩
    simp only [spec_l3To.l0]
    rw [if_neg (by omega), List.drop_eq_nil_of_le (by rw [dlen0]; omega)]
    rfl
  | succ d ih =>
    intro k j h0 hd hk
    obtain ⟨k, rfl⟩ : ∃ m, k = m + 1 := ⟨k - 1, by omega⟩
    obtain ⟨x, hx, hb⟩ := bt_get' s j (by omega)
    simp only [spec_l3To.l0]
    rw [if_pos (by omega), if_pos (by omega), hb, hx]
    simp only [ff]
    by_cases e : x.toNat = c
    · rw [if_pos (by omega), if_pos (by omega), if_pos (by omega), if_pos (by omega), if_pos e, w64 (by omega) (by omega)]
      simp only [toAns]
      rfl
    · rw [if_neg (by omega), if_neg e, w64 (by omega) (by omega)]
      have := ih k (j + 1) (by omega) (by omega) (by omega)
      have ej : ((j : Int) + 1) = ((j + 1 : Nat) : Int) := by omega
      rw [ej, this]
      cases ff (s.data.toList.drop (j + 1)) c with
      | none => rfl
      | some p =>
        simp only [toAns, Option.map_some]
        have e1 : j + 1 + p = j + (p + 1) := by omega
        rw [e1]
theorem l3_eq (s : ByteArray) (hs : s.size ≤ 1048576) (at_ c : Nat) (k : Nat) (hk : 1048577 < k) : spec_l3To.f k s (at_ : Int) (c : Int) = some (toAns s at_ at_ (ff (s.data.toList.drop at_) c)) := by
  unfold spec_l3To.f
  by_cases h : at_ ≤ s.size
  · exact l3_loop s hs at_ c (s.size - at_) k at_ (by omega) (by omega) (by omega)
  · obtain ⟨k, rfl⟩ : ∃ m, k = m + 1 := ⟨k - 1, by omega⟩
    simp only [spec_l3To.l0]
    rw [if_neg (by omega), List.drop_eq_nil_of_le (by rw [dlen0]; omega)]
    rfl
theorem l3_hit (s : ByteArray) (hs : s.size ≤ 1048576) (at_ : Nat) (c : UInt8) (a r : List UInt8) (h : s.data.toList.drop at_ = a ++ c :: r) (hc : c ∉ a) (k : Nat) (hk : 1048577 < k) :
    spec_l3To.f k s (at_ : Int) (c.toNat : Int) = some (⟨a.toArray⟩, ((at_ + a.length + 1 : Nat) : Int)) := by
  rw [l3_eq s hs at_ c.toNat k hk, h, ff_app c r a hc]
  simp only [toAns]
  have e : s.extract at_ (at_ + a.length) = ⟨a.toArray⟩ := ba_data (by
    have : (s.extract at_ (at_ + a.length)).data.toList = (s.data.toList.drop at_).take a.length := by
      simp [ByteArray.data_extract, List.take_drop]
    rw [this, h]
    simp)
  rw [e]

/-! ### ParseSpec2 -/
/-- What is said when the loop is left. -/
theorem fin_eq (s : ByteArray) (out : List S86) (ho : out.length ≤ 6) (hz : SizedL 1048576 out) (k : Nat) (hk : 4194304 < k) (x : Option (List S86 × Bool))
    (hx : x = (if s.toList = ([] : List UInt8) then (some ((([] : List S86)), false)) else ((spec_SetText.f k out).bind fun t => (if t.toList = s.toList then (some (out, true)) else (some ((([] : List S86)), false)))))) :
    (Text s out → x = some (out, true)) ∧ ((¬ Text s out) → x = some ([], false)) := by
  rw [hx, spec_SetText_eq out (by omega) hz k hk]
  simp only [Option.bind_some]
  constructor
  · rintro ⟨h1, rfl⟩
    have hne : ¬ (textOf out).toList = ([] : List UInt8) := by
      intro hh
      have hn : (⟨#[]⟩ : ByteArray).toList = ([] : List UInt8) := by
        unfold ByteArray.toList
        unfold ByteArray.toList.loop
        rfl
      have h2 := ba_ext (hh.trans hn.symm)
      have h3 := textOf_list out
      rw [h2] at h3
      cases out <;> simp at h3
    rw [if_neg hne, setText, if_pos h1, if_pos rfl]
  · intro h
    by_cases h0 : s.toList = ([] : List UInt8)
    · rw [if_pos h0]
    · rw [if_neg h0, if_neg]
      intro hh
      have he := ba_ext hh
      unfold setText at he
      by_cases ho : setOk out = true
      · rw [if_pos ho] at he; exact h ⟨ho, he⟩
      · rw [if_neg ho] at he
        apply h0
        rw [← he]
        unfold ByteArray.toList
        unfold ByteArray.toList.loop
        rfl
theorem l3_any (s : ByteArray) (hs : s.size ≤ 1048576) (at_ c : Nat) (k : Nat) (hk : 1048577 < k) : ∃ v i, spec_l3To.f k s (at_ : Int) (c : Int) = some (v, i) ∧ v.size ≤ 1048576 ∧ (i = -1 ∨ ∃ n : Nat, i = (n : Int) ∧ at_ < n ∧ n ≤ s.size) := by
  rw [l3_eq s hs at_ c k hk]
  cases h : ff (s.data.toList.drop at_) c with
  | none => exact ⟨_, _, rfl, by show (0 : Nat) ≤ 1048576; omega, Or.inl rfl⟩
  | some p =>
    have := ff_lt _ _ _ h
    rw [List.length_drop, dlen0] at this
    refine ⟨_, _, rfl, ?_, Or.inr ⟨at_ + p + 1, rfl, by omega, by omega⟩⟩
    have e : (s.extract at_ (at_ + p)).data.toList.length ≤ s.data.toList.length := by
      have : (s.extract at_ (at_ + p)).data.toList = (s.data.toList.drop at_).take p := by
        simp [ByteArray.data_extract, List.take_drop]
      rw [this, List.length_take, List.length_drop]; omega
    rw [dlen0, dlen0] at e
    omega
theorem spec_miss (s : ByteArray) (hs : s.size ≤ 1048576) (hn : ∀ l : List S86, ¬ Text s l) (d : Nat) : ∀ (k p : Nat) (out : List S86), p ≤ s.size + 1 → out.length + d = 5 → SizedL 1048576 out → 4194304 + 4 * d + 4 < k →
    spec_ParseSet.l0 k s out (p : Int) = some ([], false) := by
  induction d with
  | zero =>
    intro k p out hp hd ho hk
    obtain ⟨k, rfl⟩ : ∃ m, k = m + 1 + 1 := ⟨k - 2, by omega⟩
    have f : spec_ParseSet.j1 (k + 1) s out (p : Int) false = some ([], false) := by
      simp only [spec_ParseSet.j1, Bool.false_eq_true, if_false]
      exact (fin_eq s out (by omega) ho k (by omega) _ rfl).2 (hn out)
    simp only [spec_ParseSet.l0]
    rw [decide_eq_false (show ¬ (out.length : Int) ≤ 4 by omega), f]
    simp
  | succ d ih =>
    intro k p out hp hd ho hk
    obtain ⟨k, rfl⟩ : ∃ m, k = m + 1 + 1 + 1 := ⟨k - 3, by omega⟩
    have fin : ∀ kk : Nat, 4194304 < kk → (if s.toList = ([] : List UInt8) then (some ((([] : List S86)), false)) else ((spec_SetText.f kk out).bind fun t => (if t.toList = s.toList then (some (out, true)) else (some ((([] : List S86)), false))))) = some ([], false) := fun kk hkk => (fin_eq s out (by omega) ho kk hkk _ rfl).2 (hn out)
    have f : spec_ParseSet.j1 (k + 1 + 1) s out (p : Int) false = some ([], false) := by
      simp only [spec_ParseSet.j1, Bool.false_eq_true, if_false]
      exact fin _ (by omega)
    have j2 : ∀ q : Nat, q ≤ s.size + 3 → spec_ParseSet.j2 (k + 1) s out (q : Int) = some ([], false) := by
      intro q hq
      simp only [spec_ParseSet.j2]
      obtain ⟨v, i, e, hv, hi⟩ := l3_any s hs q 61 k (by omega)
      have e' : spec_l3To.f k s (q : Int) 61 = some (v, i) := e
      rw [e']
      simp only [Option.bind_some]
      rcases hi with rfl | ⟨n, rfl, hn1, hn2⟩
      · rw [if_pos (by omega)]; exact fin _ (by omega)
      · rw [if_neg (by omega)]
        have ew : wrap64 ((n : Int) + 1) = ((n + 1 : Nat) : Int) := by rw [w64 (by omega) (by omega)]; omega
        rw [ew]
        obtain ⟨v2, i2, e2, hv2, hi2⟩ := l3_any s hs (n + 1) 34 k (by omega)
        have e2' : spec_l3To.f k s ((n + 1 : Nat) : Int) 34 = some (v2, i2) := e2
        rw [e2']
        simp only [Option.bind_some]
        rcases hi2 with rfl | ⟨n2, rfl, hn3, hn4⟩
        · rw [if_pos (by omega)]; exact fin _ (by omega)
        · rw [if_neg (by omega), if_pos (by omega)]
          exact ih k n2 _ (by omega) (by simp; omega) (sized_snoc 1048576 out v v2 ho hv hv2) (by omega)
    have g : spec_ParseSet.j1 (k + 1 + 1) s out (p : Int) true = some ([], false) := by
      simp only [spec_ParseSet.j1, if_true]
      by_cases h0 : (out.length : Int) > 0
      · rw [if_pos h0]
        have ew : wrap64 ((p : Int) + 2) = ((p + 2 : Nat) : Int) := by rw [w64 (by omega) (by omega)]; omega
        rw [ew]
        exact j2 (p + 2) (by omega)
      · rw [if_neg h0]
        exact j2 p (by omega)
    simp only [spec_ParseSet.l0]
    rw [decide_eq_true (show (out.length : Int) ≤ 4 by omega), f, g]
    simp
theorem spec_ParseSet_miss (s : ByteArray) (hs : s.size ≤ 1048576) (h : ∀ l : List S86, ¬ Text s l) (k : Nat) (hk : 4194400 < k) : spec_ParseSet.f k s = some ([], false) :=
  spec_miss s hs h 5 k 1 [] (by omega) (by simp) (fun x hx => by simp at hx) (by omega)
theorem j2_seg (s : ByteArray) (hs : s.size ≤ 1048576) (x : S86) (hx : labelOk x.f0 x.f1 = true) (out : List S86) (ho : out.length ≤ 4) (p : Nat) (more : List UInt8) (hd : s.data.toList.drop p = seg x ++ more) (k : Nat) (hk : 1048577 < k) :
    spec_ParseSet.j2 (k + 1) s out (p : Int) = spec_ParseSet.l0 k s (out ++ [x]) ((p + (seg x).length : Nat) : Int) := by
  unfold labelOk at hx
  rw [Bool.and_eq_true] at hx
  have n1 : (61 : UInt8) ∉ x.f0.data.toList := fun hh => by
    have := name_no _ hx.1 _ hh
    simp at this
  have n2 : (34 : UInt8) ∉ x.f1.data.toList := fun hh => by
    have := plain_no _ hx.2 _ hh
    simp at this
  have hlen : s.data.toList.length = s.size := dlen0 s
  have hlt : p + (seg x ++ more).length ≤ s.size := by
    have := congrArg List.length hd
    rw [List.length_drop, hlen] at this
    have h2 : 0 < (seg x ++ more).length := by simp [seg]; omega
    omega
  have d1 : s.data.toList.drop p = x.f0.data.toList ++ 61 :: (34 :: (x.f1.data.toList ++ (34 :: more))) := by rw [hd]; simp [seg]
  have d2 : s.data.toList.drop (p + x.f0.data.toList.length + 2) = x.f1.data.toList ++ 34 :: more := by
    have : s.data.toList.drop (p + x.f0.data.toList.length + 2) = (s.data.toList.drop p).drop (x.f0.data.toList.length + 2) := by rw [List.drop_drop]; congr 1
    rw [this, d1]
    simp [List.drop_append]
  have a1 := l3_hit s hs p 61 x.f0.data.toList _ d1 n1 k hk
  have a1' : spec_l3To.f k s (p : Int) 61 = some (⟨x.f0.data.toList.toArray⟩, ((p + x.f0.data.toList.length + 1 : Nat) : Int)) := a1
  have a2 := l3_hit s hs (p + x.f0.data.toList.length + 2) 34 x.f1.data.toList _ d2 n2 k hk
  have a2' : spec_l3To.f k s ((p + x.f0.data.toList.length + 2 : Nat) : Int) 34 = some (⟨x.f1.data.toList.toArray⟩, ((p + x.f0.data.toList.length + 2 + x.f1.data.toList.length + 1 : Nat) : Int)) := a2
  simp only [spec_ParseSet.j2]
  have hsl : (seg x).length = x.f0.data.toList.length + 2 + x.f1.data.toList.length + 1 := by simp [seg]; omega
  have hlt' : p + (seg x).length ≤ s.size := by rw [List.length_append] at hlt; omega
  rw [a1']
  simp only [Option.bind_some]
  have ew : wrap64 (((p + x.f0.data.toList.length + 1 : Nat) : Int) + 1) = ((p + x.f0.data.toList.length + 2 : Nat) : Int) := by rw [w64 (by omega) (by omega)]; omega
  rw [if_neg (by omega), ew, a2']
  simp only [Option.bind_some]
  rw [if_neg (by omega), if_pos (by omega)]
  have ep : p + x.f0.data.toList.length + 2 + x.f1.data.toList.length + 1 = p + (seg x).length := by omega
  rw [ep]

/-! ### ParseSpec3 -/
theorem spec_tail (s : ByteArray) (hs : s.size ≤ 1048576) : ∀ (l out : List S86) (k p : Nat), (∀ x ∈ l, labelOk x.f0 x.f1 = true) → 0 < out.length → out.length + l.length ≤ 4 → s.data.toList.drop p = tailT l → SizedL 1048576 (out ++ l) → Text s (out ++ l) → 4194304 + 4 * l.length + 8 < k →
    spec_ParseSet.l0 k s out (p : Int) = some (out ++ l, true)
  | [], out, k, p, _, h0, h4, hd, hz, ht, hk => by
    obtain ⟨k, rfl⟩ : ∃ m, k = m + 1 + 1 := ⟨k - 2, by omega⟩
    have hl := congrArg List.length hd
    rw [List.length_drop, dlen0] at hl
    simp [tailT] at hl
    rw [List.append_nil] at hz ht ⊢
    simp only [spec_ParseSet.l0]
    rw [w64 (by omega) (by omega), if_neg (by omega)]
    simp only [spec_ParseSet.j1, Bool.false_eq_true, if_false]
    exact (fin_eq s out (by simp at h4; omega) hz k (by omega) _ rfl).1 ht
  | x :: l, out, k, p, hl, h0, h4, hd, hz, ht, hk => by
    obtain ⟨k, rfl⟩ : ∃ m, k = m + 1 + 1 + 1 := ⟨k - 3, by omega⟩
    simp only [List.length_cons] at h4 hk
    have hlen := congrArg List.length hd
    rw [List.length_drop, dlen0] at hlen
    have ht1 : (tailT (x :: l)).length = 2 + ((seg x).length + (tailT l).length) := by simp [tailT]; omega
    have ht2 : 0 < (tailT l).length := by cases l <;> simp [tailT]
    rw [ht1] at hlen
    have d2 : s.data.toList.drop (p + 2) = seg x ++ tailT l := by
      have : s.data.toList.drop (p + 2) = (s.data.toList.drop p).drop 2 := by rw [List.drop_drop]
      rw [this, hd]; rfl
    simp only [spec_ParseSet.l0]
    rw [w64 (x := (s.size : Int) - 1) (by omega) (by omega), if_pos (by omega), decide_eq_true (show (out.length : Int) ≤ 4 by omega)]
    simp only [spec_ParseSet.j1, if_true]
    rw [if_pos (by omega)]
    have ew : wrap64 ((p : Int) + 2) = ((p + 2 : Nat) : Int) := by rw [w64 (by omega) (by omega)]; omega
    rw [ew, j2_seg s hs x (hl x List.mem_cons_self) out (by omega) (p + 2) (tailT l) d2 k (by omega)]
    have d3 : s.data.toList.drop (p + 2 + (seg x).length) = tailT l := by
      have : s.data.toList.drop (p + 2 + (seg x).length) = (s.data.toList.drop (p + 2)).drop (seg x).length := by rw [List.drop_drop]
      rw [this, d2]; simp
    have ea : out ++ [x] ++ l = out ++ x :: l := by simp
    rw [spec_tail s hs l (out ++ [x]) k (p + 2 + (seg x).length) (fun y hy => hl y (List.mem_cons_of_mem _ hy)) (by simp) (by simp; omega) d3 (by rw [ea]; exact hz) (by rw [ea]; exact ht) (by omega), ea]
theorem spec_ParseSet_hit (s : ByteArray) (hs : s.size ≤ 1048576) (l : List S86) (h : Text s l) (hz : SizedL 1048576 l) (k : Nat) (hk : 4195000 < k) : spec_ParseSet.f k s = some (l, true) := by
  have hl := labs_ok l h.1
  have h4 := setOk_le l h.1
  obtain ⟨k, rfl⟩ : ∃ m, k = m + 1 + 1 + 1 := ⟨k - 3, by omega⟩
  have ts : s.data.toList = (textOf l).data.toList := by rw [h.2]
  have hlen := congrArg List.length ts
  rw [dlen0] at hlen
  unfold spec_ParseSet.f
  simp only [spec_ParseSet.l0]
  cases l with
  | nil =>
    have h2 : s.size = 2 := by rw [hlen]; rfl
    rw [w64 (by omega) (by omega), if_neg (by omega)]
    simp only [spec_ParseSet.j1, Bool.false_eq_true, if_false]
    exact (fin_eq s [] (by simp) hz (k + 1) (by omega) _ rfl).1 h
  | cons x l =>
    have tl := textOf_list (x :: l)
    simp only at tl
    rw [tl] at ts hlen
    have hsl : 0 < (tailT l).length := by cases l <;> simp [tailT]
    have hsg : 0 < (seg x).length := by simp [seg]; omega
    simp only [List.length_cons, List.length_append] at hlen h4
    rw [w64 (by omega) (by omega), if_pos (by omega)]
    have e0 : decide (((([] : List S86).length : Nat) : Int) ≤ 4) = true := rfl
    rw [e0]
    simp only [spec_ParseSet.j1, if_true]
    have e1 : ¬ (((([] : List S86).length : Nat) : Int) > 0) := by simp
    rw [if_neg e1]
    have d1 : s.data.toList.drop 1 = seg x ++ tailT l := by rw [ts]; rfl
    have ej := j2_seg s hs x (hl x List.mem_cons_self) [] (by simp) 1 (tailT l) d1 k (by omega)
    have e2 : ((1 : Nat) : Int) = 1 := rfl
    rw [e2] at ej
    rw [ej]
    have d3 : s.data.toList.drop (1 + (seg x).length) = tailT l := by
      have : s.data.toList.drop (1 + (seg x).length) = (s.data.toList.drop 1).drop (seg x).length := by rw [List.drop_drop]
      rw [this, d1]; simp
    exact spec_tail s hs l ([] ++ [x]) k (1 + (seg x).length) (fun y hy => hl y (List.mem_cons_of_mem _ hy)) (by simp) (by simp; omega) d3 hz h (by omega)
/-- Labels whose text is short are short. -/
theorem text_sized (s : ByteArray) (hs : s.size ≤ 1048576) (l : List S86) (h : Text s l) : SizedL 1048576 l := by
  intro x hx
  have := labs_ok l h.1 x hx
  unfold labelOk nameOk plainOk inB at this
  simp only [Bool.and_eq_true, decide_eq_true_iff] at this
  omega
theorem Parse_both (s : ByteArray) (hs : s.size ≤ 1048576) (k : Nat) (hk : 4195000 < k) : ∃ (l : List S86) (b : Bool), l.length ≤ 4 ∧ SizedL 1048576 l ∧ spec_ParseSet.f k s = some (l, b) ∧ impl_ParseSet.f k s = some (l, b) := by
  by_cases h : ∃ l : List S86, Text s l
  · obtain ⟨l, hl⟩ := h
    have hz := text_sized s hs l hl
    exact ⟨l, true, setOk_le l hl.1, hz, spec_ParseSet_hit s hs l hl hz k hk, impl_ParseSet_hit s hs l hl hz k (by omega)⟩
  · have h' : ∀ l : List S86, ¬ Text s l := fun l hl => h ⟨l, hl⟩
    exact ⟨[], false, by simp, fun x hx => by simp at hx, spec_ParseSet_miss s hs h' k (by omega), impl_ParseSet_miss s hs h' k (by omega)⟩

theorem finger_range (l : List S86) : 0 ≤ finger l ∧ finger l < 32 := by
  unfold finger
  have h := sumOf_range (setText l)
  have h2 : 0 ≤ sumOf (setText l) / 65536 ∧ sumOf (setText l) / 65536 < 4294967296 := by omega
  rw [xor_i64 _ _ h.1 h.2 h2.1 h2.2]
  exact tmod_range (Int.natCast_nonneg _) (by omega)
theorem alike_self (a : List S86) : alike a a = false := by unfold alike; rw [sameSet_self]; rfl
theorem alike_comm (a b : List S86) : alike a b = alike b a := by
  unfold alike
  rw [sameSet_comm a b, Bool.beq_comm (a := finger a)]
theorem partOf_range (a n : Int) (hn : ¬ n < 1) : partOf a n < n := by
  unfold partOf
  rw [if_neg hn]
  split
  · omega
  · exact (tmod_range (by omega) (by omega)).2
theorem partOf_nonneg (a n : Int) : 0 ≤ partOf a n := by
  unfold partOf
  split
  · omega
  · split
    · omega
    · exact (tmod_range (by omega) (by omega)).1
theorem parse_of_text (l : List S86) (hl : l.length ≤ 8) (hs : SizedL 13 l) (k : Nat) (hk : 4195000 < k) : impl_ParseSet.f k (setText l) = some (if setOk l = true then (l, true) else ([], false)) := by
  have hle := setText_le13 l hs
  by_cases h : setOk l = true
  · rw [if_pos h]
    have e : setText l = textOf l := by unfold setText; rw [if_pos h]
    rw [impl_ParseSet_hit (setText l) (by omega) l ⟨h, e.symm⟩ (sized13 hs) k (by omega)]
  · rw [if_neg h]
    have e : setText l = (⟨#[]⟩ : ByteArray) := by unfold setText; rw [if_neg h]
    rw [impl_ParseSet_miss (setText l) (by omega) (fun q hq => by
      have h2 := congrArg ByteArray.size hq.2
      rw [e] at h2
      have h3 := textOf_list q
      have h4 := dlen0 (textOf q)
      rw [h3] at h4
      have h5 : (⟨#[]⟩ : ByteArray).size = 0 := rfl
      rw [h5] at h2
      rw [h2] at h4
      cases q <;> simp at h4) k (by omega)]
theorem FnPrints : laws_FnPrints.Pure := by
  intro b hb hb1 hz
  obtain ⟨m, hm⟩ : ∃ m : Nat, b.length + 16778000 < m := ⟨b.length + 16778001, by omega⟩
  refine ⟨m + 1, ?_⟩
  have hm1 : b.length + 16778000 < m + 1 := by omega
  have hbl : b.length ≤ 140737488351232 := by omega
  obtain ⟨l, e1, hl, sl⟩ := DrawSetText_ok b hbl (m + 1) (by omega)
  obtain ⟨t, e2, ht⟩ := DrawParseSet_ok b hbl (m + 1) (by omega)
  obtain ⟨f, e3, hf, sf⟩ := DrawFinger_ok b hbl (m + 1) (by omega)
  obtain ⟨a, c, e4, ha, sa, hc, sc⟩ := DrawAlike_ok b hbl (m + 1) (by omega)
  obtain ⟨u, e5, hu⟩ := DrawSum_ok b hbl (m + 1) (by omega)
  obtain ⟨x, n, e6⟩ := DrawPartOf_ok b hbl (m + 1) (by omega)
  have sl6 := sized13 sl
  have sf6 := sized13 sf
  have sa6 := sized13 sa
  have sc6 := sized13 sc
  have iT : ∀ k, 16777300 < k → impl_SetText.f k l = some (setText l) := fun k hk => impl_SetText_eq l (by omega) sl6 k (by omega)
  have sT : ∀ k, 16777300 < k → spec_SetText.f k l = some (setText l) := fun k hk => spec_SetText_eq l (by omega) sl6 k (by omega)
  have iF : ∀ k, 16777300 < k → impl_Finger.f k f = some (finger f) := fun k hk => impl_Finger_eq f (by omega) sf6 k (by omega)
  have sF : ∀ k, 16777300 < k → spec_Finger.f k f = some (finger f) := fun k hk => spec_Finger_eq f (by omega) sf6 k (by omega)
  have iA : ∀ k, 16777300 < k → impl_Alike.f k a c = some (alike a c) := fun k hk => impl_Alike_eq a c (by omega) sa6 (by omega) sc6 k (by omega)
  have sA : ∀ k, 16777300 < k → spec_Alike.f k a c = some (alike a c) := fun k hk => spec_Alike_eq a c (by omega) sa6 (by omega) sc6 k (by omega)
  have iA1 : ∀ k, 16777300 < k → impl_Alike.f k a a = some false := fun k hk => by rw [impl_Alike_eq a a (by omega) sa6 (by omega) sa6 k (by omega), alike_self]
  have iA2 : ∀ k, 16777300 < k → impl_Alike.f k c a = some (alike a c) := fun k hk => by rw [impl_Alike_eq c a (by omega) sc6 (by omega) sa6 k (by omega), alike_comm]
  have iS : ∀ k, 16777300 < k → impl_Sum.f k u = some (sumOf u) := fun k hk => impl_Sum_eq u (by omega) k (by omega)
  have sS : ∀ k, 16777300 < k → spec_Sum.f k u = some (sumOf u) := fun k hk => spec_Sum_eq u (by omega) k (by omega)
  have iO : ∀ k, 16777300 < k → impl_SetOk.f k l = some (setOk l) := fun k hk => impl_SetOk_eq l (by omega) 1048576 (by omega) sl6 k (by omega)
  have iM : ∀ k, 16777300 < k → impl_SameSet.f k l l = some true := fun k hk => by rw [impl_SameSet_eq l l (by omega) k (by omega), sameSet_self]
  have pT : ∀ k, 16777300 < k → impl_ParseSet.f k (setText l) = some (if setOk l = true then (l, true) else ([], false)) := fun k hk => parse_of_text l hl sl k (by omega)
  have k0 : 16777300 < m := by omega
  have k1 : 16777300 < m + 1 := by omega
  have fr := finger_range f
  have g0 : (finger f ≥ 0) = True := eq_true fr.1
  have g1 : (finger f < 32) = True := eq_true fr.2
  have pn : decide (partOf x n ≥ 0) = true := decide_eq_true (partOf_nonneg x n)
  have J : laws_FnPrints.j0 (m + 1) l (if setOk l = true then (l, true) else (([], false) : List S86 × Bool)).1 (if setOk l = true then (l, true) else (([], false) : List S86 × Bool)).2 f a c x n false = some true := by
    simp only [laws_FnPrints.j0, Bool.false_eq_true, if_false, iO, k0, Option.bind_some, iF, g0, g1, if_true, iA1, iA, iA2, impl_PartOf_eq, beq_self_eq_true, pn]
    have fin : (if n < 1 then some true else if partOf x n < n then some true else some false) = some true := by
      by_cases hn : n < 1
      · rw [if_pos hn]
      · rw [if_neg hn, if_pos (partOf_range x n hn)]
    by_cases h : setOk l = true
    · simp only [h, if_true, beq_self_eq_true, iM, k0, Option.bind_some, fin]
    · have h' : setOk l = false := by simpa using h
      simp only [h', Bool.false_eq_true, if_false, beq_self_eq_true, if_true, fin]
  unfold laws_FnPrints.f laws_big.f
  simp only [Option.bind_some, decide_eq_true_iff]
  by_cases hbig : (b.length : Int) > 1048576
  · rw [if_pos hbig]
  rw [if_neg hbig, e1, e2, e3, e4, e5, e6]
  simp only [Option.bind_some, iT, sT, k1, pT, if_true]
  by_cases h : ∃ q : List S86, Text t q
  · obtain ⟨q, hq⟩ := h
    have sq := text_sized t (by omega) q hq
    have lq := setOk_le q hq.1
    have eq1 : setText q = t := by unfold setText; rw [if_pos hq.1]; exact hq.2
    rw [impl_ParseSet_hit t (by omega) q hq sq (m + 1) (by omega), spec_ParseSet_hit t (by omega) q hq sq (m + 1) (by omega)]
    simp only [Option.bind_some, bne_self_eq_false, Bool.false_eq_true, if_false, if_true, impl_SetText_eq q (by omega) sq (m + 1) (by omega), eq1, iF, sF, iA, sA, iS, sS, k1, impl_PartOf_eq, spec_PartOf_eq, J]
  · have h' : ∀ q : List S86, ¬ Text t q := fun q hq => h ⟨q, hq⟩
    rw [impl_ParseSet_miss t (by omega) h' (m + 1) (by omega), spec_ParseSet_miss t (by omega) h' (m + 1) (by omega)]
    simp only [Option.bind_some, bne_self_eq_false, Bool.false_eq_true, if_false, if_true, iF, sF, iA, sA, iS, sS, k1, impl_PartOf_eq, spec_PartOf_eq, J]

end Go.Proofs.Ytgindocfjoalhab.Pure
