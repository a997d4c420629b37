/- Of drawn labels: what can be put in order is, with all that it was; what is in order is put as it is: for every draw; no conditions. -/
import Derived.Test.YtgindocfjoalhabPFnSetsx10
import Derived.Test.YtgindocfjoalhabM0
import Derived.Test.YtgindocfjoalhabM1
import Derived.Test.YtgindocfjoalhabM2
import Derived.Test.YtgindocfjoalhabM3
import Derived.Test.YtgindocfjoalhabM4
import Derived.Test.YtgindocfjoalhabM5
set_option linter.unusedVariables false
set_option linter.unusedSimpArgs false
namespace Go.Proofs.Ytgindocfjoalhab.Pure
open Go.RowKit Go.Proofs.Ytgindocfjoalhab.PFnSets Go.Proofs.YtgindocfjoalhabW.PrintWords Go.Proofs.YtgindocfjoalhabW.PrintLast Go.Proofs.Ytgindocfjoalhab.M0 Go.Proofs.Ytgindocfjoalhab.M1 Go.Proofs.Ytgindocfjoalhab.M2 Go.Proofs.Ytgindocfjoalhab.M3 Go.Proofs.Ytgindocfjoalhab.M4 Go.Proofs.Ytgindocfjoalhab.M5

/-! ### Cur -/
theorem l1Byte_ok (b : List Int) (i h : Int) (hc : CurOk b i) : ∃ x i' h', spec_l1Byte.f b i h = some (x, i', h') ∧ 0 ≤ x ∧ x ≤ 255 ∧ CurOk b i' := by
  obtain ⟨h0, h1, h2⟩ := hc
  unfold spec_l1Byte.f
  by_cases hi : i < (b.length : Int)
  · rw [if_pos hi, if_pos h0]
    exact ⟨_, _, _, rfl, (and255 _).1, (and255 _).2, by rw [w64 (by omega) (by omega)]; exact ⟨by omega, by omega, h2⟩⟩
  · rw [if_neg hi]
    exact ⟨_, _, _, rfl, (and255 _).1, (and255 _).2, h0, h1, h2⟩
theorem l1Below_ok (b : List Int) (i h n : Int) (hc : CurOk b i) : ∃ x i' h', spec_l1Below.f b i h n = some (x, i', h') ∧ 0 ≤ x ∧ (0 < n → x < n) ∧ CurOk b i' := by
  unfold spec_l1Below.f
  by_cases hn : n ≤ 0
  · rw [if_pos hn]
    exact ⟨_, _, _, rfl, by omega, by omega, hc⟩
  · rw [if_neg hn]
    obtain ⟨x, i1, g1, e1, hx0, hx1, c1⟩ := l1Byte_ok b i h hc
    by_cases hb : n ≤ 256
    · rw [if_pos hb, e1]
      simp only [Option.bind_some]
      rw [if_neg (by omega)]
      have := tmod_range hx0 (show 0 < n by omega)
      exact ⟨_, _, _, rfl, this.1, fun _ => this.2, c1⟩
    · obtain ⟨y, i2, g2, e2, hy0, hy1, c2⟩ := l1Byte_ok b i1 g1 c1
      obtain ⟨z, i3, g3, e3, hz0, hz1, c3⟩ := l1Byte_ok b i2 g2 c2
      rw [if_neg hb, e1]
      simp only [Option.bind_some, e2, e3]
      rw [if_neg (by omega), w64 (x := x * 65536) (by omega) (by omega), w64 (x := y * 256) (by omega) (by omega), w64 (x := x * 65536 + y * 256) (by omega) (by omega), w64 (by omega) (by omega)]
      have := tmod_range (show 0 ≤ x * 65536 + y * 256 + z by omega) (show 0 < n by omega)
      exact ⟨_, _, _, rfl, this.1, fun _ => this.2, c3⟩

/-! ### CurNew -/
theorem l1New_l (b : List Int) (hb : b.length ≤ 140737488351232) (d : Nat) : ∀ (k : Nat) (x i : Int), 0 ≤ i → (b.length : Int) - i = d → d < k → ∃ h, spec_l1New.l0 k b x i = some (b, 0, h) := by
  induction d with
  | zero =>
    intro k x i h0 hd hk
    obtain ⟨k, rfl⟩ : ∃ m, k = m + 1 := ⟨k - 1, by omega⟩
    simp only [spec_l1New.l0]
    rw [if_neg (by omega)]
    exact ⟨_, rfl⟩
  | succ d ih =>
    intro k x i h0 hd hk
    obtain ⟨k, rfl⟩ : ∃ m, k = m + 1 := ⟨k - 1, by omega⟩
    simp only [spec_l1New.l0]
    rw [if_pos (by omega)]
    by_cases h4 : i < 4000
    · rw [if_pos h4, if_pos h0, w64 (x := i + 1) (by omega) (by omega)]
      exact ih k _ _ (by omega) (by omega) (by omega)
    · rw [if_neg h4]
      exact ⟨_, rfl⟩
theorem l1New_ok (b : List Int) (hb : b.length ≤ 140737488351232) (k : Nat) (hk : b.length < k) : ∃ h, spec_l1New.f k b = some (b, 0, h) ∧ CurOk b 0 := by
  obtain ⟨h, e⟩ := l1New_l b hb b.length k (wrap64 (140873 + (b.length : Int))) 0 (by omega) (by omega) hk
  exact ⟨h, e, by omega, by omega, hb⟩

/-! ### CurOnce -/
theorem l1Once_ok (b : List Int) (i h n : Int) (hc : CurOk b i) : ∃ t i' h', spec_l1Once.f b i h n = some (t, i', h') ∧ CurOk b i' := by
  obtain ⟨x, i1, h1, e, _, _, c⟩ := l1Below_ok b i h n hc
  unfold spec_l1Once.f
  rw [e]
  exact ⟨_, _, _, rfl, c⟩

/-! ### CurStr -/
theorem l1Str_ok (b : List Int) (i h : Int) (l : List ByteArray) (hl : 0 < l.length) (hc : CurOk b i) : ∃ s i' h', spec_l1Str.f b i h l = some (s, i', h') ∧ s ∈ l ∧ CurOk b i' := by
  obtain ⟨x, i1, h1, e, h0, hn, c⟩ := l1Below_ok b i h l.length hc
  unfold spec_l1Str.f
  rw [e]
  simp only [Option.bind_some]
  rw [if_pos h0, if_pos (hn (by omega))]
  exact ⟨_, _, _, rfl, rdOf_mem _ _ _ h0 (hn (by omega)), c⟩
theorem all13 (l : List ByteArray) (h : l.all (fun s => decide (s.size ≤ 13)) = true) : ∀ s ∈ l, s.size ≤ 13 := fun s hs => of_decide_eq_true (List.all_eq_true.1 h s hs)
theorem l1Str_sz (b : List Int) (i h : Int) (l : List ByteArray) (hl : 0 < l.length) (h13 : l.all (fun s => decide (s.size ≤ 13)) = true) (hc : CurOk b i) : ∃ s i' h', spec_l1Str.f b i h l = some (s, i', h') ∧ s.size ≤ 13 ∧ CurOk b i' := by
  obtain ⟨s, i', h', e, hm, c⟩ := l1Str_ok b i h l hl hc
  exact ⟨s, i', h', e, all13 l h13 s hm, c⟩

/-! ### NameOk -/
def nameB (s : ByteArray) (i : Int) : Bool := !(decide (bt s i < 97) || decide (bt s i > 122))
def inB (x a b : Int) : Bool := decide (a ≤ x) && decide (x ≤ b)
def nameOk (s : ByteArray) : Bool := allFrom (nameB s) s.size 0 && inB s.size 1 8
theorem spec_l1In_eq (x a b : Int) : spec_l1In.f x a b = some (inB x a b) := by
  unfold spec_l1In.f inB
  by_cases h : x ≥ a
  · rw [if_pos h, decide_eq_true (show a ≤ x from h)]; simp
  · rw [if_neg h, decide_eq_false (show ¬ a ≤ x from h)]; simp
theorem impl_in_eq (x a b : Int) : impl_in.f x a b = some (inB x a b) := by
  unfold impl_in.f inB
  by_cases h : x ≥ a
  · rw [if_pos h, decide_eq_true (show a ≤ x from h)]; simp
  · rw [if_neg h, decide_eq_false (show ¬ a ≤ x from h)]; simp
theorem name_round (s : ByteArray) (i : Int) (x : Option Bool) :
    (if (bt s i) < 97 then (some false) else (if (bt s i) > 122 then (some false) else x)) = if nameB s i = true then x else some false := by
  by_cases h1 : bt s i < 97
  · simp [nameB, h1]
  by_cases h2 : bt s i > 122
  · simp [nameB, h2]
  rw [if_neg h1, if_neg h2, if_pos (by simp [nameB, h1, h2])]
theorem spec_NameOk_eq (s : ByteArray) (hn : s.size ≤ 140737488351232) (k : Nat) (hk : s.size < k) : spec_NameOk.f k s = some (nameOk s) := by
  unfold spec_NameOk.f nameOk
  rw [all_loop hn 0 (nameB s) (fun k i => spec_NameOk.l0 k s i) (some (inB s.size 1 8)) ?_ ?_ s.size k 0 (by omega) (by omega) (by omega) (by omega)]
  · by_cases h : allFrom (nameB s) s.size 0 = true
    · simp [h]
    · simp [h]
  · intro k i _ h0 h1
    simp only [spec_NameOk.l0]
    rw [if_pos h1, if_pos h0, name_round]
  · intro k _
    simp only [spec_NameOk.l0]
    rw [if_neg (by omega), spec_l1In_eq]; rfl
theorem impl_NameOk_eq (s : ByteArray) (hn : s.size ≤ 140737488351232) (k : Nat) (hk : s.size < k) : impl_NameOk.f k s = some (nameOk s) := by
  unfold impl_NameOk.f nameOk
  rw [impl_in_eq]
  simp only [Option.bind_some]
  by_cases h12 : inB s.size 1 8 = true
  · rw [if_pos h12, h12]
    rw [all_loop hn 0 (nameB s) (fun k i => impl_NameOk.l0 k s i) (some true) ?_ ?_ s.size k 0 (by omega) (by omega) (by omega) (by omega)]
    · by_cases h : allFrom (nameB s) s.size 0 = true
      · simp [h]
      · simp [h]
    · intro k i _ h0 h1
      simp only [impl_NameOk.l0]
      rw [if_pos h1, if_pos h0, name_round]
    · intro k _
      simp only [impl_NameOk.l0]
      rw [if_neg (by omega)]
  · rw [if_neg h12]; simp [h12]

/-! ### PlainOk -/
def plainB (s : ByteArray) (i : Int) : Bool := !(decide (bt s i < 32) || decide (bt s i > 126) || decide (bt s i = 34) || decide (bt s i = 92))
def plainOk (s : ByteArray) : Bool := allFrom (plainB s) s.size 0 && decide ((s.size : Int) ≤ 12)
theorem plain_round (s : ByteArray) (i : Int) (x : Option Bool) :
    (if (bt s i) < 32 then (some false) else (if (bt s i) > 126 then (some false) else (if (bt s i) = 34 then (some false) else (if (bt s i) = 92 then (some false) else x)))) = if plainB s i = true then x else some false := by
  by_cases h1 : bt s i < 32
  · simp [plainB, h1]
  by_cases h2 : bt s i > 126
  · simp [plainB, h2]
  by_cases h3 : bt s i = 34
  · simp [plainB, h3]
  by_cases h4 : bt s i = 92
  · simp [plainB, h4]
  rw [if_neg h1, if_neg h2, if_neg h3, if_neg h4, if_pos (by simp [plainB, h1, h2, h3, h4])]
theorem spec_PlainOk_eq (s : ByteArray) (hn : s.size ≤ 140737488351232) (k : Nat) (hk : s.size < k) : spec_PlainOk.f k s = some (plainOk s) := by
  unfold spec_PlainOk.f plainOk
  rw [all_loop hn 0 (plainB s) (fun k i => spec_PlainOk.l0 k s i) (some (decide ((s.size : Int) ≤ 12))) ?_ ?_ s.size k 0 (by omega) (by omega) (by omega) (by omega)]
  · by_cases h : allFrom (plainB s) s.size 0 = true
    · simp [h]
    · simp [h]
  · intro k i _ h0 h1
    simp only [spec_PlainOk.l0]
    rw [if_pos h1, if_pos h0, plain_round]
  · intro k _
    simp only [spec_PlainOk.l0]
    rw [if_neg (by omega)]
theorem impl_PlainOk_eq (s : ByteArray) (hn : s.size ≤ 140737488351232) (k : Nat) (hk : s.size < k) : impl_PlainOk.f k s = some (plainOk s) := by
  unfold impl_PlainOk.f plainOk
  by_cases h12 : (s.size : Int) > 12
  · rw [if_pos h12, decide_eq_false (by omega)]; simp
  · rw [if_neg h12, decide_eq_true (by omega)]
    rw [all_loop hn 0 (plainB s) (fun k i => impl_PlainOk.l0 k s i) (some true) ?_ ?_ s.size k 0 (by omega) (by omega) (by omega) (by omega)]
    · by_cases h : allFrom (plainB s) s.size 0 = true
      · simp [h]
      · simp [h]
    · intro k i _ h0 h1
      simp only [impl_PlainOk.l0]
      rw [if_pos h1, if_pos h0, plain_round]
    · intro k _
      simp only [impl_PlainOk.l0]
      rw [if_neg (by omega)]

/-! ### LabelOk -/
def labelOk (a b : ByteArray) : Bool := nameOk a && plainOk b
theorem spec_LabelOk_eq (a b : ByteArray) (ha : a.size ≤ 140737488351232) (hb : b.size ≤ 140737488351232) (k : Nat) (hk : a.size < k) (hk' : b.size < k) : spec_LabelOk.f k a b = some (labelOk a b) := by
  unfold spec_LabelOk.f labelOk
  rw [spec_NameOk_eq a ha k hk, spec_PlainOk_eq b hb k hk']
  cases nameOk a <;> simp
theorem impl_LabelOk_eq (a b : ByteArray) (ha : a.size ≤ 140737488351232) (hb : b.size ≤ 140737488351232) (k : Nat) (hk : a.size < k) (hk' : b.size < k) : impl_LabelOk.f k a b = some (labelOk a b) := by
  unfold impl_LabelOk.f labelOk
  rw [impl_NameOk_eq a ha k hk, impl_PlainOk_eq b hb k hk']
  cases nameOk a <;> simp

/-! ### SetOk -/
/-- Each label's sizes. -/
def SizedL (M : Nat) (l : List S86) : Prop := ∀ x ∈ l, x.f0.size ≤ M ∧ x.f1.size ≤ M
theorem rd_mem (l : List S86) (i : Int) (h0 : 0 ≤ i) (h1 : i < (l.length : Int)) : rd_T86 l i ∈ l := by
  unfold rd_T86
  rw [List.getD_eq_getElem?_getD, List.getElem?_eq_getElem (by omega)]
  exact List.getElem_mem (by omega)
def setB (l : List S86) (i : Int) : Bool := labelOk (rd_T86 l i).f0 (rd_T86 l i).f1 && (decide (i = 0) || Op.bytesLess (rd_T86 l (i - 1)).f0.toList (rd_T86 l i).f0.toList)
def setOk (l : List S86) : Bool := allFrom (setB l) l.length 0 && decide (l.length ≤ 4)
theorem spec_SetOk_eq (l : List S86) (hl : l.length ≤ 1048576) (M : Nat) (hM : M ≤ 1048576) (hs : SizedL M l) (k : Nat) (hk : l.length + M + 1 < k) : spec_SetOk.f k l = some (setOk l) := by
  unfold spec_SetOk.f setOk
  rw [all_loop (n := l.length) (by omega) (M + 1) (setB l) (fun k i => spec_SetOk.l0 k l i) (some (decide ((l.length : Int) ≤ 4))) ?_ ?_ l.length k 0 (by omega) (by omega) (by omega) (by omega)]
  · have e : decide ((l.length : Int) ≤ 4) = decide (l.length ≤ 4) := by rw [decide_eq_decide]; omega
    rw [e]
    cases allFrom (setB l) l.length 0 <;> simp
  · intro k i hk h0 h1
    have hm := hs _ (rd_mem l i h0 h1)
    simp only [spec_SetOk.l0]
    rw [if_pos h1, if_pos h0, spec_LabelOk_eq _ _ (by omega) (by omega) _ (by omega) (by omega)]
    simp only [Option.bind_some]
    by_cases hL : labelOk (rd_T86 l i).f0 (rd_T86 l i).f1 = true
    · rw [if_pos hL]
      by_cases hz : i = 0
      · have e : setB l i = true := by unfold setB; rw [hL, decide_eq_true hz]; rfl
        rw [if_neg (by omega), if_pos e]
      · have e : setB l i = Op.bytesLess (rd_T86 l (i - 1)).f0.toList (rd_T86 l i).f0.toList := by simp [setB, hL, hz]
        rw [if_pos (by omega), w64 (x := i - 1) (by omega) (by omega), if_pos (by omega), if_pos (by omega), e]
        simp only [spec_Less.f, Option.bind_some]
    · have e : setB l i = false := by simp [setB, hL]
      rw [if_neg hL, if_neg (by simp [e])]
  · intro k _
    simp only [spec_SetOk.l0]
    rw [if_neg (by omega)]
theorem impl_SetOk_eq (l : List S86) (hl : l.length ≤ 1048576) (M : Nat) (hM : M ≤ 1048576) (hs : SizedL M l) (k : Nat) (hk : l.length + M + 1 < k) : impl_SetOk.f k l = some (setOk l) := by
  unfold impl_SetOk.f setOk
  have key := all_loop (n := l.length) (by omega) (M + 1) (fun i => decide (i < 4) && setB l i) (fun k i => impl_SetOk.l0 k l l l.length i) (some true) ?_ ?_ l.length k 0 (by omega) (by omega) (by omega) (by omega)
  · rw [key, bool_of_if]
    congr 1
    by_cases h4 : l.length ≤ 4
    · rw [decide_eq_true h4, Bool.and_true]
      exact allFrom_congr _ _ (fun j h0 h1 => by rw [decide_eq_true (by omega)]; rfl)
    · rw [decide_eq_false h4, Bool.and_false, Bool.eq_false_iff]
      intro h
      have := (allFrom_iff _ _).mp h 4 (by omega) (by omega)
      simp at this
  · intro k i hk h0 h1
    have hm := hs _ (rd_mem l i h0 h1)
    simp only [impl_SetOk.l0]
    rw [if_pos h1, if_pos h0, if_pos h1]
    by_cases h4 : i ≥ 4
    · rw [if_pos h4, decide_eq_false (by omega)]; simp
    · rw [if_neg h4, decide_eq_true (show i < 4 by omega), impl_LabelOk_eq _ _ (by omega) (by omega) _ (by omega) (by omega)]
      simp only [Option.bind_some, Bool.true_and]
      by_cases hL : labelOk (rd_T86 l i).f0 (rd_T86 l i).f1 = true
      · rw [if_pos hL]
        by_cases hz : i = 0
        · have e : setB l i = true := by unfold setB; rw [hL, decide_eq_true hz]; rfl
          rw [if_neg (by omega), if_pos e]
        · have e : setB l i = Op.bytesLess (rd_T86 l (i - 1)).f0.toList (rd_T86 l i).f0.toList := by simp [setB, hL, hz]
          rw [if_pos (by omega), w64 (x := i - 1) (by omega) (by omega), if_pos (by omega), if_pos (by omega), e]
      · have e : setB l i = false := by simp [setB, hL]
        rw [if_neg hL, if_neg (by simp [e])]
  · intro k _
    simp only [impl_SetOk.l0]
    rw [if_neg (by omega)]

/-! ### L2 -/
theorem sized_append (M : Nat) {a b : List S86} (ha : SizedL M a) (hb : SizedL M b) : SizedL M (a ++ b) := by
  intro x hx
  rcases List.mem_append.1 hx with h | h
  · exact ha x h
  · exact hb x h
theorem sized_one (M : Nat) {x y : ByteArray} (hx : x.size ≤ M) (hy : y.size ≤ M) : SizedL M [(⟨x, y⟩ : S86)] := by
  intro z hz
  rw [List.mem_singleton.1 hz]
  exact ⟨hx, hy⟩
theorem sized_set (M : Nat) {a : List S86} (ha : SizedL M a) (n : Nat) {x y : ByteArray} (hx : x.size ≤ M) (hy : y.size ≤ M) : SizedL M (a.set n (⟨x, y⟩ : S86)) := by
  intro z hz
  rcases List.mem_or_eq_of_mem_set hz with h | h
  · exact ha z h
  · rw [h]; exact ⟨hx, hy⟩
theorem l2Draw_l (b : List Int) (names : List ByteArray) (hn : names.length ≤ 4) (hs : ∀ s ∈ names, s.size ≤ 13) (d : Nat) : ∀ (k : Nat) (l : List S86) (j i h : Int), 0 ≤ j → j + d = (names.length : Int) → 1 ≤ l.length → l.length ≤ j + 1 → SizedL 13 l → CurOk b i → d < k →
    ∃ r i' h', spec_l2Draw.l0 k l names names.length j b i h = some (r, i', h') ∧ 1 ≤ r.length ∧ r.length ≤ names.length + 1 ∧ SizedL 13 r ∧ CurOk b i' := by
  induction d with
  | zero =>
    intro k l j i h h0 hd hl hl' hsz hc hk
    obtain ⟨k, rfl⟩ : ∃ m, k = m + 1 := ⟨k - 1, by omega⟩
    simp only [spec_l2Draw.l0]
    rw [if_neg (by omega)]
    exact ⟨_, _, _, rfl, hl, by omega, hsz, hc⟩
  | succ d ih =>
    intro k l j i h h0 hd hl hl' hsz hc hk
    obtain ⟨k, rfl⟩ : ∃ m, k = m + 1 := ⟨k - 1, by omega⟩
    simp only [spec_l2Draw.l0]
    rw [if_pos (by omega), if_pos h0, if_pos (by omega)]
    obtain ⟨t, i1, h1, e1, c1⟩ := l1Once_ok b i h 4 hc
    rw [e1]
    simp only [Option.bind_some]
    by_cases ht : t = true
    · rw [if_pos ht]
      obtain ⟨s, i2, h2, e2, hm, c2⟩ := l1Str_ok b i1 h1 (([(⟨#[49]⟩ : ByteArray), (⟨#[50]⟩ : ByteArray)] : List ByteArray)) (by decide) c1
      rw [e2]
      simp only [Option.bind_some]
      rw [if_pos (by omega), w64 (x := j + 1) (by omega) (by omega)]
      have hss : s.size ≤ 13 := by
        simp only [List.mem_cons, List.not_mem_nil, or_false] at hm
        rcases hm with rfl | rfl <;> decide
      exact ih k _ _ _ _ (by omega) (by omega) (by simp) (by simp; omega) (sized_append 13 hsz (sized_one 13 (hs _ (rdOf_mem _ _ _ h0 (by omega))) hss)) c2 (by omega)
    · rw [if_neg ht, w64 (x := j + 1) (by omega) (by omega)]
      exact ih k _ _ _ _ (by omega) (by omega) hl (by omega) hsz c1 (by omega)
theorem l2Draw_ok (b : List Int) (i h : Int) (k : Nat) (hk : 5 < k) (hc : CurOk b i) : ∃ r i' h', spec_l2Draw.f k b i h = some (r, i', h') ∧ 1 ≤ r.length ∧ r.length ≤ 4 ∧ SizedL 13 r ∧ CurOk b i' := by
  unfold spec_l2Draw.f
  obtain ⟨s, i2, h2, e2, hm, c2⟩ := l1Str_ok b i h (([(⟨#[97]⟩ : ByteArray), (⟨#[98]⟩ : ByteArray), (⟨#[99]⟩ : ByteArray)] : List ByteArray)) (by decide) hc
  have hss : s.size ≤ 13 := by
    simp only [List.mem_cons, List.not_mem_nil, or_false] at hm
    rcases hm with rfl | rfl | rfl <;> decide
  rw [e2]
  simp only [Option.bind_some]
  exact l2Draw_l b _ (by decide) (by
    intro s hs
    simp only [List.mem_cons, List.not_mem_nil, or_false] at hs
    rcases hs with rfl | rfl | rfl <;> decide) 3 k _ 0 _ _ (by omega) (by decide) (by simp) (by simp) (sized_one 13 (by decide) hss) c2 (by omega)

/-! ### L1Names -/
theorem l1Names_ok (b : List Int) (i h : Int) (hc : CurOk b i) : ∃ s i' h', spec_l1Names.f b i h = some (s, i', h') ∧ s.size ≤ 13 ∧ CurOk b i' := by
  unfold spec_l1Names.f
  obtain ⟨s, i2, h2, e2, hm, c2⟩ := l1Str_sz b i h (([(⟨#[97, 112, 112]⟩ : ByteArray), (⟨#[104, 111, 115, 116]⟩ : ByteArray), (⟨#[115, 101, 118]⟩ : ByteArray), (⟨#[122, 111, 110, 101]⟩ : ByteArray)] : List ByteArray)) (by decide) (by decide) hc
  rw [e2]
  exact ⟨_, _, _, rfl, hm, c2⟩

/-! ### L1AnyName -/
theorem l1AnyName_ok (b : List Int) (i h : Int) (hc : CurOk b i) : ∃ s i' h', spec_l1AnyName.f b i h = some (s, i', h') ∧ s.size ≤ 13 ∧ CurOk b i' := by
  unfold spec_l1AnyName.f
  obtain ⟨t, i1, h1, e1, c1⟩ := l1Once_ok b i h 2 hc
  rw [e1]
  simp only [Option.bind_some]
  by_cases ht : t = true
  · rw [if_pos ht]
    obtain ⟨s, i2, h2, e2, hm, c2⟩ := l1Names_ok b i1 h1 c1
    rw [e2]
    exact ⟨_, _, _, rfl, hm, c2⟩
  · rw [if_neg ht]
    obtain ⟨s, i2, h2, e2, hm, c2⟩ := l1Str_sz b i1 h1 (([(⟨#[]⟩ : ByteArray), (⟨#[65]⟩ : ByteArray), (⟨#[110, 105, 110, 101, 99, 104, 97, 114, 115]⟩ : ByteArray), (⟨#[101, 105, 103, 104, 116, 97, 98, 99]⟩ : ByteArray), (⟨#[97, 32, 98]⟩ : ByteArray), (⟨#[97, 49]⟩ : ByteArray)] : List ByteArray)) (by decide) (by decide) c1
    rw [e2]
    exact ⟨_, _, _, rfl, hm, c2⟩

/-! ### L1Plain -/
theorem l1Plain_ok (b : List Int) (i h : Int) (hc : CurOk b i) : ∃ s i' h', spec_l1Plain.f b i h = some (s, i', h') ∧ s.size ≤ 13 ∧ CurOk b i' := by
  unfold spec_l1Plain.f
  obtain ⟨s, i2, h2, e2, hm, c2⟩ := l1Str_sz b i h (([(⟨#[97]⟩ : ByteArray), (⟨#[98]⟩ : ByteArray), (⟨#[120, 32, 121]⟩ : ByteArray), (⟨#[]⟩ : ByteArray), (⟨#[99, 114, 105, 116]⟩ : ByteArray), (⟨#[125, 45]⟩ : ByteArray)] : List ByteArray)) (by decide) (by decide) hc
  rw [e2]
  exact ⟨_, _, _, rfl, hm, c2⟩

/-! ### L1AnyPlain -/
theorem l1AnyPlain_ok (b : List Int) (i h : Int) (hc : CurOk b i) : ∃ s i' h', spec_l1AnyPlain.f b i h = some (s, i', h') ∧ s.size ≤ 13 ∧ CurOk b i' := by
  unfold spec_l1AnyPlain.f
  obtain ⟨t, i1, h1, e1, c1⟩ := l1Once_ok b i h 2 hc
  rw [e1]
  simp only [Option.bind_some]
  by_cases ht : t = true
  · rw [if_pos ht]
    obtain ⟨s, i2, h2, e2, hm, c2⟩ := l1Plain_ok b i1 h1 c1
    rw [e2]
    exact ⟨_, _, _, rfl, hm, c2⟩
  · rw [if_neg ht]
    obtain ⟨s, i2, h2, e2, hm, c2⟩ := l1Str_sz b i1 h1 (([(⟨#[34]⟩ : ByteArray), (⟨#[92]⟩ : ByteArray), (⟨#[127]⟩ : ByteArray), (⟨#[31]⟩ : ByteArray), (⟨#[116, 119, 101, 108, 118, 101, 32, 98, 121, 116, 101, 115]⟩ : ByteArray), (⟨#[116, 104, 105, 114, 116, 101, 101, 110, 98, 121, 116, 101, 115]⟩ : ByteArray), (⟨#[126]⟩ : ByteArray), (⟨#[125]⟩ : ByteArray), (⟨#[44, 32, 98, 61]⟩ : ByteArray), (⟨#[125, 32, 49, 45, 50]⟩ : ByteArray)] : List ByteArray)) (by decide) (by decide) c1
    rw [e2]
    exact ⟨_, _, _, rfl, hm, c2⟩

/-! ### L2Any -/
theorem l2Any_ok (b : List Int) (i h : Int) (k : Nat) (hk : 5 < k) (hc : CurOk b i) : ∃ r i' h', spec_l2Any.f k b i h = some (r, i', h') ∧ r.length ≤ 8 ∧ SizedL 13 r ∧ CurOk b i' := by
  unfold spec_l2Any.f
  obtain ⟨l, i1, h1, e1, hl1, hl4, hs, c1⟩ := l2Draw_ok b i h k hk hc
  obtain ⟨x, i2, h2, e2, hx0, hx1, c2⟩ := l1Below_ok b i1 h1 10 c1
  rw [e1]
  simp only [Option.bind_some]
  rw [e2]
  simp only [Option.bind_some]
  by_cases x0 : x = 0
  · rw [if_pos x0]
    obtain ⟨s, i3, h3, e3, hs3, c3⟩ := l1AnyName_ok b i2 h2 c2
    obtain ⟨t, i4, h4, e4, hs4, c4⟩ := l1AnyPlain_ok b i3 h3 c3
    rw [e3]
    simp only [Option.bind_some]
    rw [e4]
    simp only [Option.bind_some]
    rw [if_pos (by omega)]
    exact ⟨_, _, _, rfl, by simp; omega, sized_append 13 hs (sized_one 13 hs3 hs4), c4⟩
  rw [if_neg x0]
  by_cases x1 : x = 1
  · rw [if_pos x1, if_pos (by simp; omega)]
    exact ⟨_, _, _, rfl, by simp; omega, sized_append 13 (sized_one 13 (by decide) (by decide)) hs, c2⟩
  rw [if_neg x1]
  by_cases x2 : x = 2
  · rw [if_pos x2, if_pos (by omega), if_pos (by omega)]
    have hm := hs _ (rd_mem l 0 (by omega) (by omega))
    exact ⟨_, _, _, rfl, by simp; omega, sized_append 13 hs (sized_one 13 hm.1 hm.2), c2⟩
  rw [if_neg x2]
  by_cases x3 : x = 3
  · rw [if_pos x3, if_pos (by simp; omega)]
    refine ⟨_, _, _, rfl, by simp; omega, sized_append 13 hs ?_, c2⟩
    intro z hz
    simp only [List.mem_cons, List.not_mem_nil, or_false] at hz
    rcases hz with rfl | rfl | rfl | rfl <;> exact ⟨by decide, by decide⟩
  rw [if_neg x3]
  by_cases x4 : x = 4
  · rw [if_pos x4]
    obtain ⟨t, i4, h4, e4, hs4, c4⟩ := l1AnyPlain_ok b i2 h2 c2
    have hm := hs _ (rd_mem l 0 (by omega) (by omega))
    rw [e4]
    simp only [Option.bind_some]
    rw [if_pos (by omega)]
    exact ⟨_, _, _, rfl, by simp; omega, sized_set 13 hs _ hm.1 hs4, c4⟩
  rw [if_neg x4]
  by_cases x5 : x = 5
  · rw [if_pos x5]
    exact ⟨_, _, _, rfl, by simp, fun z hz => by simp at hz, c2⟩
  rw [if_neg x5]
  exact ⟨_, _, _, rfl, by omega, hs, c2⟩

/-! ### SortSet -/
theorem pos_append (x : S86) (q s : List S86) : ∀ j, j ≤ q.length → spec_SortSet.pos x (q ++ s) j = spec_SortSet.pos x q j
  | 0, _ => rfl
  | j + 1, h => by
    have e : rd_T86 (q ++ s) (j : Int) = rd_T86 q (j : Int) := by
      unfold rd_T86
      rw [Int.toNat_natCast, List.getD_eq_getElem?_getD, List.getD_eq_getElem?_getD, List.getElem?_append_left (by omega)]
    show (if Op.bytesLess x.f0.toList (rd_T86 (q ++ s) (j : Int)).f0.toList = true then spec_SortSet.pos x (q ++ s) j else j + 1) = (if Op.bytesLess x.f0.toList (rd_T86 q (j : Int)).f0.toList = true then spec_SortSet.pos x q j else j + 1)
    rw [e, pos_append x q s j (by omega)]
theorem swp_at {α : Type} [Inhabited α] (q : List α) (y x : α) (s : List α) : Go.Sort.swp (q ++ y :: x :: s).toArray (q.length + 1) q.length = (q ++ x :: y :: s).toArray := by
  have e0 : (q ++ y :: x :: s).toArray[q.length]! = y := by simp
  have e1 : (q ++ y :: x :: s).toArray[q.length + 1]! = x := by
    rw [getElem!_pos _ _ (by simp)]; simp [List.getElem_append_right]
  unfold Go.Sort.swp
  rw [e0, e1]
  simp only [List.setIfInBounds_toArray]
  congr 1
  rw [List.set_append_right _ _ (by omega), List.set_append_right _ _ (by omega)]
  simp [show q.length + 1 - q.length = 1 by omega]
theorem insInner_at (x : S86) : ∀ (j : Nat) (q s : List S86), q.length = j → Go.Sort.insInner ltL 0 j (q ++ x :: s).toArray = (q.take (spec_SortSet.pos x q j) ++ x :: (q.drop (spec_SortSet.pos x q j) ++ s)).toArray
  | 0, q, s, h => by
    obtain rfl : q = [] := List.length_eq_zero_iff.mp h
    rfl
  | j + 1, q, s, h => by
    obtain ⟨q', y, rfl⟩ : ∃ q' y, q = q' ++ [y] := ⟨q.dropLast, q.getLast (by intro e; rw [e] at h; simp at h), (List.dropLast_concat_getLast _).symm⟩
    have hq : q'.length = j := by simpa using h
    subst hq
    have e0 : ((q' ++ [y]) ++ x :: s).toArray = (q' ++ y :: x :: s).toArray := by simp
    have e1 : (q' ++ y :: x :: s).toArray[q'.length]! = y := by simp
    have e2 : (q' ++ y :: x :: s).toArray[q'.length + 1]! = x := by
      rw [getElem!_pos _ _ (by simp)]; simp [List.getElem_append_right]
    have er : rd_T86 (q' ++ [y]) (q'.length : Int) = y := by
      unfold rd_T86
      rw [Int.toNat_natCast, List.getD_eq_getElem?_getD]
      simp
    have ep : spec_SortSet.pos x (q' ++ [y]) (q'.length + 1) = if Op.bytesLess x.f0.toList y.f0.toList = true then spec_SortSet.pos x q' q'.length else q'.length + 1 := by
      show (if Op.bytesLess x.f0.toList (rd_T86 (q' ++ [y]) (q'.length : Int)).f0.toList = true then spec_SortSet.pos x (q' ++ [y]) q'.length else q'.length + 1) = _
      rw [er, pos_append x q' [y] _ (Nat.le_refl _)]
    rw [ep, e0]
    show (if (decide (q'.length + 1 > 0) && ltL (q' ++ y :: x :: s).toArray[q'.length + 1]! (q' ++ y :: x :: s).toArray[q'.length]!) = true then Go.Sort.insInner ltL 0 q'.length (Go.Sort.swp (q' ++ y :: x :: s).toArray (q'.length + 1) q'.length) else (q' ++ y :: x :: s).toArray) = _
    rw [e1, e2, decide_eq_true (by omega), Bool.true_and, swp_at]
    show (if Op.bytesLess x.f0.toList y.f0.toList = true then _ else _) = _
    have hp := spec_SortSet.pos_le x q' q'.length
    by_cases hb : Op.bytesLess x.f0.toList y.f0.toList = true
    · rw [if_pos hb, if_pos hb, insInner_at x q'.length q' (y :: s) rfl, List.take_append_of_le_length hp, List.drop_append_of_le_length hp]
      simp
    · rw [if_neg hb, if_neg hb]
      have e3 : (q' ++ [y]).take (q'.length + 1) = q' ++ [y] := List.take_of_length_le (by simp)
      have e4 : (q' ++ [y]).drop (q'.length + 1) = [] := List.drop_eq_nil_of_le (by simp)
      rw [e3, e4]
      simp
theorem insOuter_at : ∀ (rest g : List S86) (n : Nat), g.length + rest.length = n → Go.Sort.insOuter ltL 0 n g.length (g ++ rest).toArray = (spec_SortSet.go rest g).toArray
  | [], g, n, h => by
    rw [Go.Sort.insOuter, if_neg (by simp at h; omega), List.append_nil]; rfl
  | x :: r, g, n, h => by
    have e : g.take (spec_SortSet.pos x g g.length) ++ x :: (g.drop (spec_SortSet.pos x g g.length) ++ r) = spec_SortSet.ins x g ++ r := by simp [spec_SortSet.ins]
    have hl := spec_SortSet.ins_len x g
    rw [Go.Sort.insOuter, if_pos (by simp at h; omega), insInner_at x g.length g r rfl, e, ← hl]
    exact insOuter_at r (spec_SortSet.ins x g) n (by simp at h; omega)
theorem isort_eq (l : List S86) : Go.Sort.insertionSort ltL l.toArray 0 l.length = (spec_SortSet.go l []).toArray := by
  cases l with
  | nil => rw [Go.Sort.insertionSort, Go.Sort.insOuter, if_neg (by simp)]; rfl
  | cons x r => exact insOuter_at r [x] _ (by simp; omega)
theorem ins_perm (x : S86) (out : List S86) : (spec_SortSet.ins x out).Perm (x :: out) := by
  unfold spec_SortSet.ins
  rw [List.append_assoc]
  have h := List.perm_middle (a := x) (l₁ := out.take (spec_SortSet.pos x out out.length)) (l₂ := out.drop (spec_SortSet.pos x out out.length))
  rwa [List.take_append_drop] at h
theorem go_perm : ∀ (l out : List S86), (spec_SortSet.go l out).Perm (l ++ out)
  | [], out => List.Perm.refl _
  | x :: r, out => (go_perm r (spec_SortSet.ins x out)).trans (((ins_perm x out).append_left r).trans List.perm_middle)
def sorted5 (l : List S86) : List S86 := spec_SortSet.go (l.take 5) []
theorem sorted5_perm (l : List S86) : (sorted5 l).Perm (l.take 5) := by have h := go_perm (l.take 5) []; rwa [List.append_nil] at h
theorem sorted5_len (l : List S86) : (sorted5 l).length = min 5 l.length := by rw [(sorted5_perm l).length_eq, List.length_take]
theorem sorted5_sized {M : Nat} {l : List S86} (hs : SizedL M l) : SizedL M (sorted5 l) := fun x hx => hs x (List.mem_of_mem_take ((sorted5_perm l).mem_iff.mp hx))
def sortSet (l : List S86) : List S86 × Bool := if setOk (sorted5 l) = true then (sorted5 l, true) else ([], false)
theorem setOk_long (l : List S86) (h : 4 < l.length) : setOk l = false := by
  unfold setOk
  rw [decide_eq_false (by omega), Bool.and_false]
theorem sortSet_len (l : List S86) : (sortSet l).1.length ≤ 4 := by
  unfold sortSet
  split
  · rename_i h
    have : ¬ 4 < (sorted5 l).length := fun q => by rw [setOk_long _ q] at h; cases h
    simpa using this
  · simp
theorem spec_SortSet_eq (l : List S86) (hl : l.length ≤ 1048576) (M : Nat) (hM : M ≤ 1048576) (hs : SizedL M l) (k : Nat) (hk : l.length + M + 1 < k) : spec_SortSet.f k l = some (sortSet l) := by
  unfold spec_SortSet.f sortSet
  have hlen := sorted5_len l
  have h := spec_SetOk_eq (sorted5 l) (by omega) M hM (sorted5_sized hs) k (by omega)
  unfold sorted5 at h
  rw [h]
  simp only [Option.bind_some]
  show (if setOk (sorted5 l) = true then some (sorted5 l, true) else some ([], false)) = _
  split <;> rfl
theorem impl_SortSet_eq (l : List S86) (hl : l.length ≤ 1048576) (M : Nat) (hM : M ≤ 1048576) (hs : SizedL M l) (k : Nat) (hk : l.length + M + 1 < k) : impl_SortSet.f k l = some (sortSet l) := by
  unfold impl_SortSet.f
  rw [if_pos (by omega)]
  by_cases h20 : l.length < 20
  · rw [if_pos h20, isort_eq]
    show ((impl_SetOk.f k (spec_SortSet.go l [])).bind fun t => if t = true then some (spec_SortSet.go l [], true) else some ([], false)) = _
    have hp : (spec_SortSet.go l []).Perm l := by have h := go_perm l []; rwa [List.append_nil] at h
    have hz : SizedL M (spec_SortSet.go l []) := fun x hx => hs x (hp.mem_iff.mp hx)
    rw [impl_SetOk_eq _ (by rw [hp.length_eq]; exact hl) M hM hz k (by rw [hp.length_eq]; exact hk)]
    simp only [Option.bind_some]
    unfold sortSet
    by_cases h4 : l.length ≤ 5
    · have e : sorted5 l = spec_SortSet.go l [] := by unfold sorted5; rw [List.take_of_length_le h4]
      rw [e]
      split <;> rfl
    · rw [setOk_long _ (by rw [hp.length_eq]; omega), setOk_long _ (by rw [sorted5_len]; omega)]
      rfl
  · rw [if_neg h20, if_pos]
    · unfold sortSet
      rw [setOk_long _ (by rw [sorted5_len]; omega)]
      rfl
    · intro d hd
      rw [impl_SetOk_eq d (by rw [hd.length_eq]; exact hl) M hM (fun x hx => hs x (hd.mem_iff.mp hx)) k (by rw [hd.length_eq]; exact hk), setOk_long _ (by rw [hd.length_eq]; omega)]

/-! ### DrawSets -/
theorem rd_sized {M : Nat} {l : List S86} (hs : SizedL M l) (i : Int) (h0 : 0 ≤ i) (h1 : i < (l.length : Int)) : (rd_T86 l i).f0.size ≤ M ∧ (rd_T86 l i).f1.size ≤ M := hs _ (rd_mem l i h0 h1)
theorem DrawSortSet_l (b : List Int) : ∀ (d : Nat) (k : Nat) (l : List S86) (i h : Int), d < k → l.length ≤ 8 → (d = 0 ∨ d < l.length) → SizedL 13 l → CurOk b i → ∀ x5 : Int, (x5 = (d : Int) ∨ d = 0 ∧ x5 = -1) → ∃ r, spec_DrawSortSet.l0 k l x5 b i h = some r ∧ r.length ≤ 8 ∧ SizedL 13 r
  | 0, k, l, i, h, hk, hl, _, hs, hc, x5, hx => by
    obtain ⟨k, rfl⟩ : ∃ m, k = m + 1 := ⟨k - 1, by omega⟩
    simp only [spec_DrawSortSet.l0]
    rw [if_neg (by omega)]
    exact ⟨_, rfl, hl, hs⟩
  | d + 1, k, l, i, h, hk, hl, hd, hs, hc, x5, hx => by
    obtain ⟨k, rfl⟩ : ∃ m, k = m + 1 := ⟨k - 1, by omega⟩
    obtain rfl : x5 = ((d + 1 : Nat) : Int) := by omega
    have hdl : d + 1 < l.length := by omega
    simp only [spec_DrawSortSet.l0]
    rw [if_pos (by omega), w64 (x := ((d + 1 : Nat) : Int) + 1) (by omega) (by omega)]
    obtain ⟨x, i1, h1, e1, hx0, hx1, c1⟩ := l1Below_ok b i h (((d + 1 : Nat) : Int) + 1) hc
    have hx2 := hx1 (by omega)
    rw [e1]
    simp only [Option.bind_some]
    rw [if_pos (by omega), if_pos (by omega), if_pos hx0, if_pos (by omega), w64 (x := ((d + 1 : Nat) : Int) - 1) (by omega) (by omega)]
    have m0 := rd_sized hs x hx0 (by omega)
    have m1 := rd_sized hs ((d + 1 : Nat) : Int) (by omega) (by omega)
    exact DrawSortSet_l b d k _ i1 h1 (by omega) (by simpa using hl) (by rw [List.length_set, List.length_set]; omega) (sized_set 13 (sized_set 13 hs _ m0.1 m0.2) _ m1.1 m1.2) c1 _ (.inl (by omega))
theorem DrawSortSet_ok (b : List Int) (hb : b.length ≤ 140737488351232) (k : Nat) (hk : b.length + 16 < k) : ∃ x, spec_DrawSortSet.f k b = some x ∧ x.length ≤ 8 ∧ SizedL 13 x := by
  unfold spec_DrawSortSet.f
  obtain ⟨h, e, c⟩ := l1New_ok b hb k (by omega)
  rw [e]
  simp only [Option.bind_some]
  obtain ⟨x, i1, h1, e1, hx, hs, c1⟩ := l2Any_ok b 0 h k (by omega) c
  rw [e1]
  simp only [Option.bind_some]
  rw [w64 (x := (x.length : Int) - 1) (by omega) (by omega)]
  exact DrawSortSet_l b (x.length - 1) k x i1 h1 (by omega) hx (by omega) hs c1 _ (by omega)
theorem DrawSetOk_ok (b : List Int) (hb : b.length ≤ 140737488351232) (k : Nat) (hk : b.length + 16 < k) : ∃ x, spec_DrawSetOk.f k b = some x ∧ x.length ≤ 8 ∧ SizedL 13 x := by
  unfold spec_DrawSetOk.f
  obtain ⟨h, e, c⟩ := l1New_ok b hb k (by omega)
  rw [e]
  simp only [Option.bind_some]
  obtain ⟨x, i1, h1, e1, hx, hs, c1⟩ := l2Any_ok b 0 h k (by omega) c
  rw [e1]
  exact ⟨_, rfl, hx, hs⟩
theorem DrawLabelOk_ok (b : List Int) (hb : b.length ≤ 140737488351232) (k : Nat) (hk : b.length + 16 < k) : ∃ x y, spec_DrawLabelOk.f k b = some (x, y) ∧ x.size ≤ 13 ∧ y.size ≤ 13 := by
  unfold spec_DrawLabelOk.f
  obtain ⟨h, e, c⟩ := l1New_ok b hb k (by omega)
  rw [e]
  simp only [Option.bind_some]
  obtain ⟨x, i1, h1, e1, hx, c1⟩ := l1AnyName_ok b 0 h c
  rw [e1]
  simp only [Option.bind_some]
  obtain ⟨y, i2, h2, e2, hy, c2⟩ := l1AnyPlain_ok b i1 h1 c1
  rw [e2]
  exact ⟨_, _, rfl, hx, hy⟩
theorem DrawSameSet_ok (b : List Int) (hb : b.length ≤ 140737488351232) (k : Nat) (hk : b.length + 16 < k) : ∃ x y, spec_DrawSameSet.f k b = some (x, y) ∧ x.length ≤ 8 ∧ y.length ≤ 8 := by
  unfold spec_DrawSameSet.f
  obtain ⟨h, e, c⟩ := l1New_ok b hb k (by omega)
  rw [e]
  simp only [Option.bind_some]
  obtain ⟨x, i1, h1, e1, hx, hs, c1⟩ := l2Any_ok b 0 h k (by omega) c
  rw [e1]
  simp only [Option.bind_some]
  obtain ⟨t, i2, h2, e2, c2⟩ := l1Once_ok b i1 h1 2 c1
  rw [e2]
  simp only [Option.bind_some]
  by_cases ht : t = true
  · rw [if_pos ht, if_pos (by simp; omega)]
    exact ⟨_, _, rfl, hx, by simpa using hx⟩
  · rw [if_neg ht]
    obtain ⟨y, i3, h3, e3, hy, _, c3⟩ := l2Any_ok b i2 h2 k (by omega) c2
    rw [e3]
    exact ⟨_, _, rfl, hx, hy⟩
theorem DrawValOf_ok (b : List Int) (hb : b.length ≤ 140737488351232) (k : Nat) (hk : b.length + 16 < k) : ∃ x s, spec_DrawValOf.f k b = some (x, s) ∧ x.length ≤ 8 := by
  unfold spec_DrawValOf.f
  obtain ⟨h, e, c⟩ := l1New_ok b hb k (by omega)
  rw [e]
  simp only [Option.bind_some]
  obtain ⟨x, i1, h1, e1, hx, hs, c1⟩ := l2Any_ok b 0 h k (by omega) c
  rw [e1]
  simp only [Option.bind_some]
  obtain ⟨s, i2, h2, e2, _, c2⟩ := l1AnyName_ok b i1 h1 c1
  rw [e2]
  exact ⟨_, _, rfl, hx⟩

/-! ### ValOf -/
def valHit (name : ByteArray) (x : S86) : Option (ByteArray × Bool) := if x.f0.toList = name.toList then some (x.f1, true) else none
def valOf (l : List S86) (name : ByteArray) : ByteArray × Bool := seek (valHit name) ((⟨#[]⟩ : ByteArray), false) l
theorem spec_ValOf_eq (l : List S86) (hl : l.length ≤ 140737488351232) (name : ByteArray) (k : Nat) (hk : l.length < k) : spec_ValOf.f k l name = some (valOf l name) := by
  unfold spec_ValOf.f valOf
  have h := seek_loop l hl z86 (valHit name) ((⟨#[]⟩ : ByteArray), false) 0 (fun k i => spec_ValOf.l0 k l name i) ?_ ?_ l.length k 0 (by omega) (by omega) (by omega)
  · exact h
  · intro k i _ h0 h1
    simp only [spec_ValOf.l0, valHit]
    rw [if_pos h1, if_pos h0]
    show (if (l.getD i.toNat z86).f0.toList = name.toList then _ else _) = _
    split <;> rfl
  · intro k _
    simp only [spec_ValOf.l0]
    rw [if_neg (by omega)]
theorem impl_ValOf_eq (l : List S86) (hl : l.length ≤ 140737488351232) (name : ByteArray) (k : Nat) (hk : l.length < k) : impl_ValOf.f k l name = some (valOf l name) := by
  unfold impl_ValOf.f valOf
  have h := seek_loop l hl z86 (valHit name) ((⟨#[]⟩ : ByteArray), false) 0 (fun k i => impl_ValOf.l0 k name l l.length i) ?_ ?_ l.length k 0 (by omega) (by omega) (by omega)
  · exact h
  · intro k i _ h0 h1
    simp only [impl_ValOf.l0, valHit]
    rw [if_pos h1, if_pos h0, if_pos h1]
    show (if (l.getD i.toNat z86).f0.toList = name.toList then _ else _) = _
    split <;> rfl
  · intro k _
    simp only [impl_ValOf.l0]
    rw [if_neg (by omega)]

/-! ### SameSet -/
def labEq (x y : S86) : Bool := (x.f0.toList == y.f0.toList) && (x.f1.toList == y.f1.toList)
def sameB (a b : List S86) (i : Int) : Bool := labEq (rd_T86 a i) (rd_T86 b i)
def sameSet (a b : List S86) : Bool := decide (a.length = b.length) && allFrom (sameB a b) a.length 0
theorem same_round (a b : List S86) (i : Int) (x : Option Bool) :
    (if (!((((rd_T86 a i).f0).toList) == (((rd_T86 b i).f0).toList)) || (!((((rd_T86 a i).f1).toList) == (((rd_T86 b i).f1).toList)))) = true then (some false) else x) = if sameB a b i = true then x else some false := by
  unfold sameB labEq
  cases ((rd_T86 a i).f0.toList == (rd_T86 b i).f0.toList) <;> cases ((rd_T86 a i).f1.toList == (rd_T86 b i).f1.toList) <;> simp
theorem spec_SameSet_eq (a b : List S86) (ha : a.length ≤ 140737488351232) (k : Nat) (hk : a.length < k) : spec_SameSet.f k a b = some (sameSet a b) := by
  unfold spec_SameSet.f sameSet
  by_cases h : a.length = b.length
  · rw [if_pos (by omega), decide_eq_true h, Bool.true_and]
    rw [all_loop (n := a.length) ha 0 (sameB a b) (fun k i => spec_SameSet.l0 k a b i) (some true) ?_ ?_ a.length k 0 (by omega) (by omega) (by omega) (by omega), bool_of_if]
    · intro k i _ h0 h1
      simp only [spec_SameSet.l0]
      rw [if_pos h1, if_pos h0, if_pos (by omega), same_round]
    · intro k _
      simp only [spec_SameSet.l0]
      rw [if_neg (by omega)]
  · rw [if_neg (by omega), decide_eq_false h]; rfl
theorem impl_SameSet_eq (a b : List S86) (ha : a.length ≤ 140737488351232) (k : Nat) (hk : a.length < k) : impl_SameSet.f k a b = some (sameSet a b) := by
  unfold impl_SameSet.f sameSet
  by_cases h : a.length = b.length
  · rw [if_pos (by omega), decide_eq_true h, Bool.true_and]
    rw [all_loop (n := a.length) ha 0 (sameB a b) (fun k i => impl_SameSet.l0 k a b a.length i) (some true) ?_ ?_ a.length k 0 (by omega) (by omega) (by omega) (by omega), bool_of_if]
    · intro k i _ h0 h1
      simp only [impl_SameSet.l0]
      rw [if_pos h1, if_pos h0, if_pos h1, if_pos (by omega), same_round]
    · intro k _
      simp only [impl_SameSet.l0]
      rw [if_neg (by omega)]
  · rw [if_neg (by omega), decide_eq_false h]; rfl

/-! ### SameSetLaws -/
theorem sameSet_self (l : List S86) : sameSet l l = true := by
  unfold sameSet
  simp [allFrom_iff, sameB, labEq]
theorem labEq_comm (x y : S86) : labEq x y = labEq y x := by
  unfold labEq
  rw [Bool.beq_comm (a := x.f0.toList), Bool.beq_comm (a := x.f1.toList)]
theorem sameSet_comm (a b : List S86) : sameSet a b = sameSet b a := by
  unfold sameSet
  by_cases h : a.length = b.length
  · have hh : sameB a b = sameB b a := by funext i; exact labEq_comm _ _
    rw [hh, h]
  · rw [decide_eq_false h, decide_eq_false (fun e => h e.symm)]; rfl

/-! ### SetsLaws -/
def NameLt (a b : S86) : Prop := Op.bytesLess a.f0.toList b.f0.toList = true
theorem setOk_strict (l : List S86) (h : setOk l = true) : l.Pairwise NameLt := by
  unfold setOk at h
  rw [Bool.and_eq_true] at h
  have hb := (allFrom_iff _ _).mp h.1
  have adj : ∀ i (hi : i + 1 < l.length), NameLt (l[i]'(by omega)) (l[i + 1]'hi) := by
    intro i hi
    have hj := hb ((i : Int) + 1) (by omega) (by omega)
    unfold setB at hj
    rw [Bool.and_eq_true] at hj
    have h2 := hj.2
    rw [decide_eq_false (by omega), Bool.false_or] at h2
    have e0 : rd_T86 l ((i : Int) + 1 - 1) = l[i]'(by omega) := by
      unfold rd_T86
      rw [show ((i : Int) + 1 - 1).toNat = i by omega, List.getD_eq_getElem?_getD, List.getElem?_eq_getElem (by omega)]; rfl
    have e1 : rd_T86 l ((i : Int) + 1) = l[i + 1]'hi := by
      unfold rd_T86
      rw [show ((i : Int) + 1).toNat = i + 1 by omega, List.getD_eq_getElem?_getD, List.getElem?_eq_getElem hi]; rfl
    rw [e0, e1] at h2
    exact h2
  rw [List.pairwise_iff_getElem]
  have key : ∀ (d i : Nat) (hd : i + d + 1 < l.length), NameLt (l[i]'(by omega)) (l[i + d + 1]'hd) := by
    intro d
    induction d with
    | zero => intro i hd; exact adj i hd
    | succ d ih =>
      intro i hd
      exact bl_trans _ _ _ (ih i (by omega)) (adj (i + d + 1) hd)
  intro i j hi hj hij
  have e : j = i + (j - i - 1) + 1 := by omega
  have := key (j - i - 1) i (by omega)
  simpa only [← e] using this
theorem pos_top (x : S86) (out : List S86) (h : ∀ y ∈ out, NameLt y x) : spec_SortSet.pos x out out.length = out.length := by
  cases hn : out.length with
  | zero => rfl
  | succ j =>
    show (if Op.bytesLess x.f0.toList (rd_T86 out (j : Int)).f0.toList = true then spec_SortSet.pos x out j else j + 1) = j + 1
    have hm : rd_T86 out (j : Int) ∈ out := rd_mem out _ (by omega) (by omega)
    rw [if_neg (by rw [bl_asymm _ _ (h _ hm)]; decide)]
theorem go_sorted : ∀ (r out : List S86), (out ++ r).Pairwise NameLt → spec_SortSet.go r out = out ++ r
  | [], out, _ => by rw [List.append_nil]; rfl
  | x :: r, out, h => by
    have hx : ∀ y ∈ out, NameLt y x := fun y hy => (List.pairwise_append.mp h).2.2 y hy x List.mem_cons_self
    have e : spec_SortSet.ins x out = out ++ [x] := by
      unfold spec_SortSet.ins
      rw [pos_top x out hx, List.take_length, List.drop_length, List.append_nil]
    show spec_SortSet.go r (spec_SortSet.ins x out) = _
    rw [e, go_sorted r (out ++ [x]) (by simpa using h)]
    simp
theorem sorted5_self (l : List S86) (h : setOk l = true) : sorted5 l = l := by
  have h4 : ¬ 4 < l.length := fun q => by rw [setOk_long _ q] at h; cases h
  unfold sorted5
  rw [List.take_of_length_le (by omega)]
  exact go_sorted l [] (setOk_strict l h)
theorem sortSet_no (l : List S86) (h : (sortSet l).2 = false) : (sortSet l).1 = [] ∧ setOk l = false := by
  unfold sortSet at h ⊢
  by_cases hk : setOk (sorted5 l) = true
  · rw [if_pos hk] at h; cases h
  · rw [if_neg hk]
    refine ⟨rfl, ?_⟩
    by_cases hl : setOk l = true
    · rw [sorted5_self l hl] at hk; exact absurd hl hk
    · simpa using hl
theorem sortSet_yes (l : List S86) (h : (sortSet l).2 = true) : setOk (sortSet l).1 = true ∧ (sortSet l).1.Perm l ∧ sortSet (sortSet l).1 = ((sortSet l).1, true) ∧ (sortSet l).1.Pairwise NameLt := by
  have hk : setOk (sorted5 l) = true := by
    unfold sortSet at h
    by_cases hk : setOk (sorted5 l) = true
    · exact hk
    · rw [if_neg hk] at h; cases h
  have e : (sortSet l).1 = sorted5 l := by unfold sortSet; rw [if_pos hk]
  rw [e]
  have h4 : ¬ 4 < (sorted5 l).length := fun q => by rw [setOk_long _ q] at hk; cases hk
  have hp : (sorted5 l).Perm l := by
    have h1 := sorted5_perm l
    have h2 := sorted5_len l
    rwa [List.take_of_length_le (by omega)] at h1
  refine ⟨hk, hp, ?_, setOk_strict _ hk⟩
  unfold sortSet
  rw [sorted5_self _ hk, if_pos hk]
theorem valOf_mem : ∀ (l : List S86) (x : S86), l.Pairwise NameLt → x ∈ l → valOf l x.f0 = (x.f1, true)
  | y :: r, x, hp, hx => by
    rw [List.pairwise_cons] at hp
    by_cases he : y.f0.toList = x.f0.toList
    · rcases List.mem_cons.mp hx with rfl | hr
      · simp [valOf, seek, valHit]
      · have := hp.1 x hr
        unfold NameLt at this
        rw [he, bl_irrefl] at this
        cases this
    · rcases List.mem_cons.mp hx with rfl | hr
      · exact absurd rfl he
      · have ih := valOf_mem r x hp.2 hr
        simp only [valOf, seek, valHit, if_neg he] at ih ⊢
        exact ih

theorem sets_loop (l s : List S86) (hl : l.length ≤ 8) (hp : s.Perm l) (hs : s.Pairwise NameLt) (hk : setOk s = true) (hz : SizedL 13 s) : ∀ (d : Nat) (k : Nat) (i : Int), 0 ≤ i → (l.length : Int) - i = d → 64 + d < k → laws_FnSets.l0 k l s s true i = some true
  | 0, k, i, h0, hd, hk1 => by
    obtain ⟨k, rfl⟩ : ∃ m, k = m + 1 := ⟨k - 1, by omega⟩
    have hlen := hp.length_eq
    simp only [laws_FnSets.l0]
    rw [if_neg (by omega), impl_SetOk_eq s (by omega) 13 (by omega) hz k (by omega), hk]
    simp only [Option.bind_some, if_true]
    rw [if_pos (by omega), impl_SameSet_eq s s (by omega) k (by omega), sameSet_self]
    rfl
  | d + 1, k, i, h0, hd, hk1 => by
    obtain ⟨k, rfl⟩ : ∃ m, k = m + 1 := ⟨k - 1, by omega⟩
    have hlen := hp.length_eq
    have hm : rd_T86 l i ∈ s := hp.mem_iff.mpr (rd_mem l i h0 (by omega))
    simp only [laws_FnSets.l0]
    rw [if_pos (by omega), if_pos h0, impl_ValOf_eq s (by omega) _ k (by omega), valOf_mem s _ hs hm]
    simp only [Option.bind_some, if_true]
    rw [w64 (x := i + 1) (by omega) (by omega)]
    exact sets_loop l s hl hp hs hk hz d k (i + 1) (by omega) (by omega) (by omega)
theorem FnSets : laws_FnSets.Pure := by
  intro b hb _ _
  obtain ⟨m, hm⟩ : ∃ m : Nat, 4194304 < m := ⟨4194305, by omega⟩
  refine ⟨m + 1, ?_⟩
  unfold laws_FnSets.f laws_big.f
  simp only [Option.bind_some]
  by_cases hz : (b.length : Int) > 1048576
  · rw [if_pos (decide_eq_true hz)]
  · rw [if_neg (by simpa using hz)]
    obtain ⟨l, e1, hl, sl⟩ := DrawSortSet_ok b (by omega) (m + 1) (by omega)
    obtain ⟨o, e2, ho, so⟩ := DrawSetOk_ok b (by omega) (m + 1) (by omega)
    obtain ⟨x, y, e3, hx, hy⟩ := DrawLabelOk_ok b (by omega) (m + 1) (by omega)
    obtain ⟨p, q, e4, hp, hq⟩ := DrawSameSet_ok b (by omega) (m + 1) (by omega)
    obtain ⟨v, n, e5, hv⟩ := DrawValOf_ok b (by omega) (m + 1) (by omega)
    have hlen := sortSet_len l
    rw [e1, e2, e3, e4, e5]
    simp only [Option.bind_some]
    rw [impl_SortSet_eq l (by omega) 13 (by omega) sl (m + 1) (by omega), spec_SortSet_eq l (by omega) 13 (by omega) sl (m + 1) (by omega), impl_ValOf_eq v (by omega) n (m + 1) (by omega), spec_ValOf_eq v (by omega) n (m + 1) (by omega),
      impl_SetOk_eq o (by omega) 13 (by omega) so (m + 1) (by omega), spec_SetOk_eq o (by omega) 13 (by omega) so (m + 1) (by omega), impl_LabelOk_eq x y (by omega) (by omega) (m + 1) (by omega) (by omega), spec_LabelOk_eq x y (by omega) (by omega) (m + 1) (by omega) (by omega),
      impl_SameSet_eq p q (by omega) (m + 1) (by omega), spec_SameSet_eq p q (by omega) (m + 1) (by omega)]
    simp only [Option.bind_some]
    rw [impl_SameSet_eq _ _ (by omega) (m + 1) (by omega), sameSet_self]
    simp only [Option.bind_some, bne_self_eq_false, Bool.false_eq_true, if_false, if_true]
    simp only [laws_FnSets.j0, Bool.false_eq_true, if_false]
    cases hk : (sortSet l).2
    · obtain ⟨h1, h2⟩ := sortSet_no l hk
      rw [h1, impl_SetOk_eq l (by omega) 13 (by omega) sl m (by omega), h2]
      rfl
    · obtain ⟨h1, h2, h3, h4⟩ := sortSet_yes l hk
      have zs : SizedL 13 (sortSet l).1 := fun z hz => sl z (h2.mem_iff.mp hz)
      rw [impl_SortSet_eq _ (by omega) 13 (by omega) zs m (by omega), h3]
      simp only [Option.bind_some, if_true]
      exact sets_loop l _ hl h2 h4 h1 zs l.length m 0 (by omega) (by omega) (by omega)

end Go.Proofs.Ytgindocfjoalhab.Pure
