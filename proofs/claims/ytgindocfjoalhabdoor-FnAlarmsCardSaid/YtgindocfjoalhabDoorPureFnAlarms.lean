/- Of drawn alarms: which are good, alike, over, and their texts, are as the reference has it: for every draw; no conditions. -/
import Derived.Test.YtgindocfjoalhabDoorPFnAlarmsx12
import Derived.Test.YtgindocfjoalhabDoorM0
import Derived.Test.YtgindocfjoalhabDoorM1
import Derived.Test.YtgindocfjoalhabDoorM2
import Derived.Test.YtgindocfjoalhabDoorM3
import Derived.Test.YtgindocfjoalhabDoorM4
import Derived.Test.YtgindocfjoalhabDoorM5
set_option linter.unusedVariables false
set_option linter.unusedSimpArgs false
namespace Go.Proofs.YtgindocfjoalhabDoor.Pure
open Go.RowKit Go.Proofs.YtgindocfjoalhabDoor.PFnAlarms Go.Proofs.YtgindocfjoalhabDoorW.PrintWords Go.Proofs.YtgindocfjoalhabDoorW.PrintLast Go.Proofs.YtgindocfjoalhabDoor.M0 Go.Proofs.YtgindocfjoalhabDoor.M1 Go.Proofs.YtgindocfjoalhabDoor.M2 Go.Proofs.YtgindocfjoalhabDoor.M3 Go.Proofs.YtgindocfjoalhabDoor.M4 Go.Proofs.YtgindocfjoalhabDoor.M5

/-! ### Cur -/
theorem l1Byte_ok (b : List Int) (i h : Int) (hc : CurOk b i) : ∃ x i' h', spec_l1Byte.f b i h = some (x, i', h') ∧ 0 ≤ x ∧ x ≤ 255 ∧ CurOk b i' := by
  obtain ⟨h0, h1, h2⟩ := hc
  unfold spec_l1Byte.f
  by_cases hi : i < (b.length : Int)
  · rw [if_pos hi, if_pos h0]
    exact ⟨_, _, _, rfl, (and255 _).1, (and255 _).2, by rw [w64 (by omega) (by omega)]; exact ⟨by omega, by omega, h2⟩⟩
  · rw [if_neg hi]
    exact ⟨_, _, _, rfl, (and255 _).1, (and255 _).2, h0, h1, h2⟩
theorem l1Below_ok (b : List Int) (i h n : Int) (hc : CurOk b i) : ∃ x i' h', spec_l1Below.f b i h n = some (x, i', h') ∧ 0 ≤ x ∧ (0 < n → x < n) ∧ CurOk b i' := by
  unfold spec_l1Below.f
  by_cases hn : n ≤ 0
  · rw [if_pos hn]
    exact ⟨_, _, _, rfl, by omega, by omega, hc⟩
  · rw [if_neg hn]
    obtain ⟨x, i1, g1, e1, hx0, hx1, c1⟩ := l1Byte_ok b i h hc
    by_cases hb : n ≤ 256
    · rw [if_pos hb, e1]
      simp only [Option.bind_some]
      rw [if_neg (by omega)]
      have := tmod_range hx0 (show 0 < n by omega)
      exact ⟨_, _, _, rfl, this.1, fun _ => this.2, c1⟩
    · obtain ⟨y, i2, g2, e2, hy0, hy1, c2⟩ := l1Byte_ok b i1 g1 c1
      obtain ⟨z, i3, g3, e3, hz0, hz1, c3⟩ := l1Byte_ok b i2 g2 c2
      rw [if_neg hb, e1]
      simp only [Option.bind_some, e2, e3]
      rw [if_neg (by omega), w64 (x := x * 65536) (by omega) (by omega), w64 (x := y * 256) (by omega) (by omega), w64 (x := x * 65536 + y * 256) (by omega) (by omega), w64 (by omega) (by omega)]
      have := tmod_range (show 0 ≤ x * 65536 + y * 256 + z by omega) (show 0 < n by omega)
      exact ⟨_, _, _, rfl, this.1, fun _ => this.2, c3⟩

/-! ### CurOnce -/
theorem l1Once_ok (b : List Int) (i h n : Int) (hc : CurOk b i) : ∃ t i' h', spec_l1Once.f b i h n = some (t, i', h') ∧ CurOk b i' := by
  obtain ⟨x, i1, h1, e, _, _, c⟩ := l1Below_ok b i h n hc
  unfold spec_l1Once.f
  rw [e]
  exact ⟨_, _, _, rfl, c⟩

/-! ### CurStr -/
theorem l1Str_ok (b : List Int) (i h : Int) (l : List ByteArray) (hl : 0 < l.length) (hc : CurOk b i) : ∃ s i' h', spec_l1Str.f b i h l = some (s, i', h') ∧ s ∈ l ∧ CurOk b i' := by
  obtain ⟨x, i1, h1, e, h0, hn, c⟩ := l1Below_ok b i h l.length hc
  unfold spec_l1Str.f
  rw [e]
  simp only [Option.bind_some]
  rw [if_pos h0, if_pos (hn (by omega))]
  exact ⟨_, _, _, rfl, rdOf_mem _ _ _ h0 (hn (by omega)), c⟩
theorem all13 (l : List ByteArray) (h : l.all (fun s => decide (s.size ≤ 13)) = true) : ∀ s ∈ l, s.size ≤ 13 := fun s hs => of_decide_eq_true (List.all_eq_true.1 h s hs)
theorem l1Str_sz (b : List Int) (i h : Int) (l : List ByteArray) (hl : 0 < l.length) (h13 : l.all (fun s => decide (s.size ≤ 13)) = true) (hc : CurOk b i) : ∃ s i' h', spec_l1Str.f b i h l = some (s, i', h') ∧ s.size ≤ 13 ∧ CurOk b i' := by
  obtain ⟨s, i', h', e, hm, c⟩ := l1Str_ok b i h l hl hc
  exact ⟨s, i', h', e, all13 l h13 s hm, c⟩

/-! ### NameOk -/
def nameB (s : ByteArray) (i : Int) : Bool := !(decide (bt s i < 97) || decide (bt s i > 122))
def inB (x a b : Int) : Bool := decide (a ≤ x) && decide (x ≤ b)
def nameOk (s : ByteArray) : Bool := allFrom (nameB s) s.size 0 && inB s.size 1 8
theorem spec_l1In_eq (x a b : Int) : spec_l1In.f x a b = some (inB x a b) := by
  unfold spec_l1In.f inB
  by_cases h : x ≥ a
  · rw [if_pos h, decide_eq_true (show a ≤ x from h)]; simp
  · rw [if_neg h, decide_eq_false (show ¬ a ≤ x from h)]; simp
theorem impl_in_eq (x a b : Int) : impl_in.f x a b = some (inB x a b) := by
  unfold impl_in.f inB
  by_cases h : x ≥ a
  · rw [if_pos h, decide_eq_true (show a ≤ x from h)]; simp
  · rw [if_neg h, decide_eq_false (show ¬ a ≤ x from h)]; simp
theorem name_round (s : ByteArray) (i : Int) (x : Option Bool) :
    (if (bt s i) < 97 then (some false) else (if (bt s i) > 122 then (some false) else x)) = if nameB s i = true then x else some false := by
  by_cases h1 : bt s i < 97
  · simp [nameB, h1]
  by_cases h2 : bt s i > 122
  · simp [nameB, h2]
  rw [if_neg h1, if_neg h2, if_pos (by simp [nameB, h1, h2])]
theorem spec_NameOk_eq (s : ByteArray) (hn : s.size ≤ 140737488351232) (k : Nat) (hk : s.size < k) : spec_NameOk.f k s = some (nameOk s) := by
  unfold spec_NameOk.f nameOk
  rw [all_loop hn 0 (nameB s) (fun k i => spec_NameOk.l0 k s i) (some (inB s.size 1 8)) ?_ ?_ s.size k 0 (by omega) (by omega) (by omega) (by omega)]
  · by_cases h : allFrom (nameB s) s.size 0 = true
    · simp [h]
    · simp [h]
  · intro k i _ h0 h1
    simp only [spec_NameOk.l0]
    rw [if_pos h1, if_pos h0, name_round]
  · intro k _
    simp only [spec_NameOk.l0]
    rw [if_neg (by omega), spec_l1In_eq]; rfl
theorem impl_NameOk_eq (s : ByteArray) (hn : s.size ≤ 140737488351232) (k : Nat) (hk : s.size < k) : impl_NameOk.f k s = some (nameOk s) := by
  unfold impl_NameOk.f nameOk
  rw [impl_in_eq]
  simp only [Option.bind_some]
  by_cases h12 : inB s.size 1 8 = true
  · rw [if_pos h12, h12]
    rw [all_loop hn 0 (nameB s) (fun k i => impl_NameOk.l0 k s i) (some true) ?_ ?_ s.size k 0 (by omega) (by omega) (by omega) (by omega)]
    · by_cases h : allFrom (nameB s) s.size 0 = true
      · simp [h]
      · simp [h]
    · intro k i _ h0 h1
      simp only [impl_NameOk.l0]
      rw [if_pos h1, if_pos h0, name_round]
    · intro k _
      simp only [impl_NameOk.l0]
      rw [if_neg (by omega)]
  · rw [if_neg h12]; simp [h12]

/-! ### PlainOk -/
def plainB (s : ByteArray) (i : Int) : Bool := !(decide (bt s i < 32) || decide (bt s i > 126) || decide (bt s i = 34) || decide (bt s i = 92))
def plainOk (s : ByteArray) : Bool := allFrom (plainB s) s.size 0 && decide ((s.size : Int) ≤ 12)
theorem plain_round (s : ByteArray) (i : Int) (x : Option Bool) :
    (if (bt s i) < 32 then (some false) else (if (bt s i) > 126 then (some false) else (if (bt s i) = 34 then (some false) else (if (bt s i) = 92 then (some false) else x)))) = if plainB s i = true then x else some false := by
  by_cases h1 : bt s i < 32
  · simp [plainB, h1]
  by_cases h2 : bt s i > 126
  · simp [plainB, h2]
  by_cases h3 : bt s i = 34
  · simp [plainB, h3]
  by_cases h4 : bt s i = 92
  · simp [plainB, h4]
  rw [if_neg h1, if_neg h2, if_neg h3, if_neg h4, if_pos (by simp [plainB, h1, h2, h3, h4])]
theorem spec_PlainOk_eq (s : ByteArray) (hn : s.size ≤ 140737488351232) (k : Nat) (hk : s.size < k) : spec_PlainOk.f k s = some (plainOk s) := by
  unfold spec_PlainOk.f plainOk
  rw [all_loop hn 0 (plainB s) (fun k i => spec_PlainOk.l0 k s i) (some (decide ((s.size : Int) ≤ 12))) ?_ ?_ s.size k 0 (by omega) (by omega) (by omega) (by omega)]
  · by_cases h : allFrom (plainB s) s.size 0 = true
    · simp [h]
    · simp [h]
  · intro k i _ h0 h1
    simp only [spec_PlainOk.l0]
    rw [if_pos h1, if_pos h0, plain_round]
  · intro k _
    simp only [spec_PlainOk.l0]
    rw [if_neg (by omega)]
theorem impl_PlainOk_eq (s : ByteArray) (hn : s.size ≤ 140737488351232) (k : Nat) (hk : s.size < k) : impl_PlainOk.f k s = some (plainOk s) := by
  unfold impl_PlainOk.f plainOk
  by_cases h12 : (s.size : Int) > 12
  · rw [if_pos h12, decide_eq_false (by omega)]; simp
  · rw [if_neg h12, decide_eq_true (by omega)]
    rw [all_loop hn 0 (plainB s) (fun k i => impl_PlainOk.l0 k s i) (some true) ?_ ?_ s.size k 0 (by omega) (by omega) (by omega) (by omega)]
    · by_cases h : allFrom (plainB s) s.size 0 = true
      · simp [h]
      · simp [h]
    · intro k i _ h0 h1
      simp only [impl_PlainOk.l0]
      rw [if_pos h1, if_pos h0, plain_round]
    · intro k _
      simp only [impl_PlainOk.l0]
      rw [if_neg (by omega)]

/-! ### LabelOk -/
def labelOk (a b : ByteArray) : Bool := nameOk a && plainOk b
theorem spec_LabelOk_eq (a b : ByteArray) (ha : a.size ≤ 140737488351232) (hb : b.size ≤ 140737488351232) (k : Nat) (hk : a.size < k) (hk' : b.size < k) : spec_LabelOk.f k a b = some (labelOk a b) := by
  unfold spec_LabelOk.f labelOk
  rw [spec_NameOk_eq a ha k hk, spec_PlainOk_eq b hb k hk']
  cases nameOk a <;> simp
theorem impl_LabelOk_eq (a b : ByteArray) (ha : a.size ≤ 140737488351232) (hb : b.size ≤ 140737488351232) (k : Nat) (hk : a.size < k) (hk' : b.size < k) : impl_LabelOk.f k a b = some (labelOk a b) := by
  unfold impl_LabelOk.f labelOk
  rw [impl_NameOk_eq a ha k hk, impl_PlainOk_eq b hb k hk']
  cases nameOk a <;> simp

/-! ### SetOk -/
/-- Each label's sizes. -/
def SizedL (M : Nat) (l : List S56) : Prop := ∀ x ∈ l, x.f0.size ≤ M ∧ x.f1.size ≤ M
theorem rd_mem (l : List S56) (i : Int) (h0 : 0 ≤ i) (h1 : i < (l.length : Int)) : rd_T56 l i ∈ l := by
  unfold rd_T56
  rw [List.getD_eq_getElem?_getD, List.getElem?_eq_getElem (by omega)]
  exact List.getElem_mem (by omega)
def setB (l : List S56) (i : Int) : Bool := labelOk (rd_T56 l i).f0 (rd_T56 l i).f1 && (decide (i = 0) || Op.bytesLess (rd_T56 l (i - 1)).f0.toList (rd_T56 l i).f0.toList)
def setOk (l : List S56) : Bool := allFrom (setB l) l.length 0 && decide (l.length ≤ 4)
theorem spec_SetOk_eq (l : List S56) (hl : l.length ≤ 1048576) (M : Nat) (hM : M ≤ 1048576) (hs : SizedL M l) (k : Nat) (hk : l.length + M + 1 < k) : spec_SetOk.f k l = some (setOk l) := by
  unfold spec_SetOk.f setOk
  rw [all_loop (n := l.length) (by omega) (M + 1) (setB l) (fun k i => spec_SetOk.l0 k l i) (some (decide ((l.length : Int) ≤ 4))) ?_ ?_ l.length k 0 (by omega) (by omega) (by omega) (by omega)]
  · have e : decide ((l.length : Int) ≤ 4) = decide (l.length ≤ 4) := by rw [decide_eq_decide]; omega
    rw [e]
    cases allFrom (setB l) l.length 0 <;> simp
  · intro k i hk h0 h1
    have hm := hs _ (rd_mem l i h0 h1)
    simp only [spec_SetOk.l0]
    rw [if_pos h1, if_pos h0, spec_LabelOk_eq _ _ (by omega) (by omega) _ (by omega) (by omega)]
    simp only [Option.bind_some]
    by_cases hL : labelOk (rd_T56 l i).f0 (rd_T56 l i).f1 = true
    · rw [if_pos hL]
      by_cases hz : i = 0
      · have e : setB l i = true := by unfold setB; rw [hL, decide_eq_true hz]; rfl
        rw [if_neg (by omega), if_pos e]
      · have e : setB l i = Op.bytesLess (rd_T56 l (i - 1)).f0.toList (rd_T56 l i).f0.toList := by simp [setB, hL, hz]
        rw [if_pos (by omega), w64 (x := i - 1) (by omega) (by omega), if_pos (by omega), if_pos (by omega), e]
        simp only [spec_Less.f, Option.bind_some]
    · have e : setB l i = false := by simp [setB, hL]
      rw [if_neg hL, if_neg (by simp [e])]
  · intro k _
    simp only [spec_SetOk.l0]
    rw [if_neg (by omega)]
theorem impl_SetOk_eq (l : List S56) (hl : l.length ≤ 1048576) (M : Nat) (hM : M ≤ 1048576) (hs : SizedL M l) (k : Nat) (hk : l.length + M + 1 < k) : impl_SetOk.f k l = some (setOk l) := by
  unfold impl_SetOk.f setOk
  have key := all_loop (n := l.length) (by omega) (M + 1) (fun i => decide (i < 4) && setB l i) (fun k i => impl_SetOk.l0 k l l l.length i) (some true) ?_ ?_ l.length k 0 (by omega) (by omega) (by omega) (by omega)
  · rw [key, bool_of_if]
    congr 1
    by_cases h4 : l.length ≤ 4
    · rw [decide_eq_true h4, Bool.and_true]
      exact allFrom_congr _ _ (fun j h0 h1 => by rw [decide_eq_true (by omega)]; rfl)
    · rw [decide_eq_false h4, Bool.and_false, Bool.eq_false_iff]
      intro h
      have := (allFrom_iff _ _).mp h 4 (by omega) (by omega)
      simp at this
  · intro k i hk h0 h1
    have hm := hs _ (rd_mem l i h0 h1)
    simp only [impl_SetOk.l0]
    rw [if_pos h1, if_pos h0, if_pos h1]
    by_cases h4 : i ≥ 4
    · rw [if_pos h4, decide_eq_false (by omega)]; simp
    · rw [if_neg h4, decide_eq_true (show i < 4 by omega), impl_LabelOk_eq _ _ (by omega) (by omega) _ (by omega) (by omega)]
      simp only [Option.bind_some, Bool.true_and]
      by_cases hL : labelOk (rd_T56 l i).f0 (rd_T56 l i).f1 = true
      · rw [if_pos hL]
        by_cases hz : i = 0
        · have e : setB l i = true := by unfold setB; rw [hL, decide_eq_true hz]; rfl
          rw [if_neg (by omega), if_pos e]
        · have e : setB l i = Op.bytesLess (rd_T56 l (i - 1)).f0.toList (rd_T56 l i).f0.toList := by simp [setB, hL, hz]
          rw [if_pos (by omega), w64 (x := i - 1) (by omega) (by omega), if_pos (by omega), if_pos (by omega), e]
      · have e : setB l i = false := by simp [setB, hL]
        rw [if_neg hL, if_neg (by simp [e])]
  · intro k _
    simp only [impl_SetOk.l0]
    rw [if_neg (by omega)]

/-! ### L2 -/
theorem sized_append (M : Nat) {a b : List S56} (ha : SizedL M a) (hb : SizedL M b) : SizedL M (a ++ b) := by
  intro x hx
  rcases List.mem_append.1 hx with h | h
  · exact ha x h
  · exact hb x h
theorem sized_one (M : Nat) {x y : ByteArray} (hx : x.size ≤ M) (hy : y.size ≤ M) : SizedL M [(⟨x, y⟩ : S56)] := by
  intro z hz
  rw [List.mem_singleton.1 hz]
  exact ⟨hx, hy⟩
theorem sized_set (M : Nat) {a : List S56} (ha : SizedL M a) (n : Nat) {x y : ByteArray} (hx : x.size ≤ M) (hy : y.size ≤ M) : SizedL M (a.set n (⟨x, y⟩ : S56)) := by
  intro z hz
  rcases List.mem_or_eq_of_mem_set hz with h | h
  · exact ha z h
  · rw [h]; exact ⟨hx, hy⟩
theorem l2Draw_l (b : List Int) (names : List ByteArray) (hn : names.length ≤ 4) (hs : ∀ s ∈ names, s.size ≤ 13) (d : Nat) : ∀ (k : Nat) (l : List S56) (j i h : Int), 0 ≤ j → j + d = (names.length : Int) → 1 ≤ l.length → l.length ≤ j + 1 → SizedL 13 l → CurOk b i → d < k →
    ∃ r i' h', spec_l2Draw.l0 k l names names.length j b i h = some (r, i', h') ∧ 1 ≤ r.length ∧ r.length ≤ names.length + 1 ∧ SizedL 13 r ∧ CurOk b i' := by
  induction d with
  | zero =>
    intro k l j i h h0 hd hl hl' hsz hc hk
    obtain ⟨k, rfl⟩ : ∃ m, k = m + 1 := ⟨k - 1, by omega⟩
    simp only [spec_l2Draw.l0]
    rw [if_neg (by omega)]
    exact ⟨_, _, _, rfl, hl, by omega, hsz, hc⟩
  | succ d ih =>
    intro k l j i h h0 hd hl hl' hsz hc hk
    obtain ⟨k, rfl⟩ : ∃ m, k = m + 1 := ⟨k - 1, by omega⟩
    simp only [spec_l2Draw.l0]
    rw [if_pos (by omega), if_pos h0, if_pos (by omega)]
    obtain ⟨t, i1, h1, e1, c1⟩ := l1Once_ok b i h 4 hc
    rw [e1]
    simp only [Option.bind_some]
    by_cases ht : t = true
    · rw [if_pos ht]
      obtain ⟨s, i2, h2, e2, hm, c2⟩ := l1Str_ok b i1 h1 (([(⟨#[49]⟩ : ByteArray), (⟨#[50]⟩ : ByteArray)] : List ByteArray)) (by decide) c1
      rw [e2]
      simp only [Option.bind_some]
      rw [if_pos (by omega), w64 (x := j + 1) (by omega) (by omega)]
      have hss : s.size ≤ 13 := by
        simp only [List.mem_cons, List.not_mem_nil, or_false] at hm
        rcases hm with rfl | rfl <;> decide
      exact ih k _ _ _ _ (by omega) (by omega) (by simp) (by simp; omega) (sized_append 13 hsz (sized_one 13 (hs _ (rdOf_mem _ _ _ h0 (by omega))) hss)) c2 (by omega)
    · rw [if_neg ht, w64 (x := j + 1) (by omega) (by omega)]
      exact ih k _ _ _ _ (by omega) (by omega) hl (by omega) hsz c1 (by omega)
theorem l2Draw_ok (b : List Int) (i h : Int) (k : Nat) (hk : 5 < k) (hc : CurOk b i) : ∃ r i' h', spec_l2Draw.f k b i h = some (r, i', h') ∧ 1 ≤ r.length ∧ r.length ≤ 4 ∧ SizedL 13 r ∧ CurOk b i' := by
  unfold spec_l2Draw.f
  obtain ⟨s, i2, h2, e2, hm, c2⟩ := l1Str_ok b i h (([(⟨#[97]⟩ : ByteArray), (⟨#[98]⟩ : ByteArray), (⟨#[99]⟩ : ByteArray)] : List ByteArray)) (by decide) hc
  have hss : s.size ≤ 13 := by
    simp only [List.mem_cons, List.not_mem_nil, or_false] at hm
    rcases hm with rfl | rfl | rfl <;> decide
  rw [e2]
  simp only [Option.bind_some]
  exact l2Draw_l b _ (by decide) (by
    intro s hs
    simp only [List.mem_cons, List.not_mem_nil, or_false] at hs
    rcases hs with rfl | rfl | rfl <;> decide) 3 k _ 0 _ _ (by omega) (by decide) (by simp) (by simp) (sized_one 13 (by decide) hss) c2 (by omega)

/-! ### L1Names -/
theorem l1Names_ok (b : List Int) (i h : Int) (hc : CurOk b i) : ∃ s i' h', spec_l1Names.f b i h = some (s, i', h') ∧ s.size ≤ 13 ∧ CurOk b i' := by
  unfold spec_l1Names.f
  obtain ⟨s, i2, h2, e2, hm, c2⟩ := l1Str_sz b i h (([(⟨#[97, 112, 112]⟩ : ByteArray), (⟨#[104, 111, 115, 116]⟩ : ByteArray), (⟨#[115, 101, 118]⟩ : ByteArray), (⟨#[122, 111, 110, 101]⟩ : ByteArray)] : List ByteArray)) (by decide) (by decide) hc
  rw [e2]
  exact ⟨_, _, _, rfl, hm, c2⟩

/-! ### L1AnyName -/
theorem l1AnyName_ok (b : List Int) (i h : Int) (hc : CurOk b i) : ∃ s i' h', spec_l1AnyName.f b i h = some (s, i', h') ∧ s.size ≤ 13 ∧ CurOk b i' := by
  unfold spec_l1AnyName.f
  obtain ⟨t, i1, h1, e1, c1⟩ := l1Once_ok b i h 2 hc
  rw [e1]
  simp only [Option.bind_some]
  by_cases ht : t = true
  · rw [if_pos ht]
    obtain ⟨s, i2, h2, e2, hm, c2⟩ := l1Names_ok b i1 h1 c1
    rw [e2]
    exact ⟨_, _, _, rfl, hm, c2⟩
  · rw [if_neg ht]
    obtain ⟨s, i2, h2, e2, hm, c2⟩ := l1Str_sz b i1 h1 (([(⟨#[]⟩ : ByteArray), (⟨#[65]⟩ : ByteArray), (⟨#[110, 105, 110, 101, 99, 104, 97, 114, 115]⟩ : ByteArray), (⟨#[101, 105, 103, 104, 116, 97, 98, 99]⟩ : ByteArray), (⟨#[97, 32, 98]⟩ : ByteArray), (⟨#[97, 49]⟩ : ByteArray)] : List ByteArray)) (by decide) (by decide) c1
    rw [e2]
    exact ⟨_, _, _, rfl, hm, c2⟩

/-! ### L1Plain -/
theorem l1Plain_ok (b : List Int) (i h : Int) (hc : CurOk b i) : ∃ s i' h', spec_l1Plain.f b i h = some (s, i', h') ∧ s.size ≤ 13 ∧ CurOk b i' := by
  unfold spec_l1Plain.f
  obtain ⟨s, i2, h2, e2, hm, c2⟩ := l1Str_sz b i h (([(⟨#[97]⟩ : ByteArray), (⟨#[98]⟩ : ByteArray), (⟨#[120, 32, 121]⟩ : ByteArray), (⟨#[]⟩ : ByteArray), (⟨#[99, 114, 105, 116]⟩ : ByteArray), (⟨#[125, 45]⟩ : ByteArray)] : List ByteArray)) (by decide) (by decide) hc
  rw [e2]
  exact ⟨_, _, _, rfl, hm, c2⟩

/-! ### L1AnyPlain -/
theorem l1AnyPlain_ok (b : List Int) (i h : Int) (hc : CurOk b i) : ∃ s i' h', spec_l1AnyPlain.f b i h = some (s, i', h') ∧ s.size ≤ 13 ∧ CurOk b i' := by
  unfold spec_l1AnyPlain.f
  obtain ⟨t, i1, h1, e1, c1⟩ := l1Once_ok b i h 2 hc
  rw [e1]
  simp only [Option.bind_some]
  by_cases ht : t = true
  · rw [if_pos ht]
    obtain ⟨s, i2, h2, e2, hm, c2⟩ := l1Plain_ok b i1 h1 c1
    rw [e2]
    exact ⟨_, _, _, rfl, hm, c2⟩
  · rw [if_neg ht]
    obtain ⟨s, i2, h2, e2, hm, c2⟩ := l1Str_sz b i1 h1 (([(⟨#[34]⟩ : ByteArray), (⟨#[92]⟩ : ByteArray), (⟨#[127]⟩ : ByteArray), (⟨#[31]⟩ : ByteArray), (⟨#[116, 119, 101, 108, 118, 101, 32, 98, 121, 116, 101, 115]⟩ : ByteArray), (⟨#[116, 104, 105, 114, 116, 101, 101, 110, 98, 121, 116, 101, 115]⟩ : ByteArray), (⟨#[126]⟩ : ByteArray), (⟨#[125]⟩ : ByteArray), (⟨#[44, 32, 98, 61]⟩ : ByteArray), (⟨#[125, 32, 49, 45, 50]⟩ : ByteArray)] : List ByteArray)) (by decide) (by decide) c1
    rw [e2]
    exact ⟨_, _, _, rfl, hm, c2⟩

/-! ### L2Any -/
theorem l2Any_ok (b : List Int) (i h : Int) (k : Nat) (hk : 5 < k) (hc : CurOk b i) : ∃ r i' h', spec_l2Any.f k b i h = some (r, i', h') ∧ r.length ≤ 8 ∧ SizedL 13 r ∧ CurOk b i' := by
  unfold spec_l2Any.f
  obtain ⟨l, i1, h1, e1, hl1, hl4, hs, c1⟩ := l2Draw_ok b i h k hk hc
  obtain ⟨x, i2, h2, e2, hx0, hx1, c2⟩ := l1Below_ok b i1 h1 10 c1
  rw [e1]
  simp only [Option.bind_some]
  rw [e2]
  simp only [Option.bind_some]
  by_cases x0 : x = 0
  · rw [if_pos x0]
    obtain ⟨s, i3, h3, e3, hs3, c3⟩ := l1AnyName_ok b i2 h2 c2
    obtain ⟨t, i4, h4, e4, hs4, c4⟩ := l1AnyPlain_ok b i3 h3 c3
    rw [e3]
    simp only [Option.bind_some]
    rw [e4]
    simp only [Option.bind_some]
    rw [if_pos (by omega)]
    exact ⟨_, _, _, rfl, by simp; omega, sized_append 13 hs (sized_one 13 hs3 hs4), c4⟩
  rw [if_neg x0]
  by_cases x1 : x = 1
  · rw [if_pos x1, if_pos (by simp; omega)]
    exact ⟨_, _, _, rfl, by simp; omega, sized_append 13 (sized_one 13 (by decide) (by decide)) hs, c2⟩
  rw [if_neg x1]
  by_cases x2 : x = 2
  · rw [if_pos x2, if_pos (by omega), if_pos (by omega)]
    have hm := hs _ (rd_mem l 0 (by omega) (by omega))
    exact ⟨_, _, _, rfl, by simp; omega, sized_append 13 hs (sized_one 13 hm.1 hm.2), c2⟩
  rw [if_neg x2]
  by_cases x3 : x = 3
  · rw [if_pos x3, if_pos (by simp; omega)]
    refine ⟨_, _, _, rfl, by simp; omega, sized_append 13 hs ?_, c2⟩
    intro z hz
    simp only [List.mem_cons, List.not_mem_nil, or_false] at hz
    rcases hz with rfl | rfl | rfl | rfl <;> exact ⟨by decide, by decide⟩
  rw [if_neg x3]
  by_cases x4 : x = 4
  · rw [if_pos x4]
    obtain ⟨t, i4, h4, e4, hs4, c4⟩ := l1AnyPlain_ok b i2 h2 c2
    have hm := hs _ (rd_mem l 0 (by omega) (by omega))
    rw [e4]
    simp only [Option.bind_some]
    rw [if_pos (by omega)]
    exact ⟨_, _, _, rfl, by simp; omega, sized_set 13 hs _ hm.1 hs4, c4⟩
  rw [if_neg x4]
  by_cases x5 : x = 5
  · rw [if_pos x5]
    exact ⟨_, _, _, rfl, by simp, fun z hz => by simp at hz, c2⟩
  rw [if_neg x5]
  exact ⟨_, _, _, rfl, by omega, hs, c2⟩

/-! ### CurInt -/
theorem l1Int_ok (b : List Int) (i h : Int) (l : List Int) (hl : 0 < l.length) (hc : CurOk b i) : ∃ s i' h', spec_l1Int.f b i h l = some (s, i', h') ∧ s ∈ l ∧ CurOk b i' := by
  obtain ⟨x, i1, h1, e, h0, hn, c⟩ := l1Below_ok b i h l.length hc
  unfold spec_l1Int.f
  rw [e]
  simp only [Option.bind_some]
  rw [if_pos h0, if_pos (hn (by omega))]
  exact ⟨_, _, _, rfl, rd_mem_int _ _ h0 (hn (by omega)), c⟩

/-! ### L1Raw -/
theorem l1Odd_ok (b : List Int) (i h : Int) (hc : CurOk b i) : ∃ x i' h', spec_l1Odd.f b i h = some (x, i', h') ∧ (-9223372036854775808 ≤ x ∧ x ≤ 9223372036854775807) ∧ CurOk b i' := by
  unfold spec_l1Odd.f
  obtain ⟨s, i2, h2, e2, hm, c2⟩ := l1Int_ok b i h (([(-1), 0, 1, 2, 255, 256, 65535, 2147483647, 2147483648, 4294967295, 4294967296, (-2147483648), 9223372036854775807, (-9223372036854775808)] : List Int)) (by decide) hc
  rw [e2]
  refine ⟨_, _, _, rfl, ?_, c2⟩
  simp only [List.mem_cons, List.not_mem_nil, or_false] at hm
  omega
theorem l1Raw_ok (b : List Int) (i h : Int) (hc : CurOk b i) : ∃ x i' h', spec_l1Raw.f b i h = some (x, i', h') ∧ (-9223372036854775808 ≤ x ∧ x ≤ 9223372036854775807) ∧ CurOk b i' := by
  unfold spec_l1Raw.f
  obtain ⟨t, i1, h1, e1, c1⟩ := l1Once_ok b i h 2 hc
  rw [e1]
  simp only [Option.bind_some]
  by_cases ht : t = true
  · rw [if_pos ht]
    obtain ⟨s, i2, h2, e2, hm, c2⟩ := l1Odd_ok b i1 h1 c1
    rw [e2]
    exact ⟨_, _, _, rfl, hm, c2⟩
  · rw [if_neg ht]
    obtain ⟨s, i2, h2, e2, hm, c2⟩ := l1Int_ok b i1 h1 (([(-1), 0, 1, 3, 99999, 100000] : List Int)) (by decide) c1
    rw [e2]
    refine ⟨_, _, _, rfl, ?_, c2⟩
    simp only [List.mem_cons, List.not_mem_nil, or_false] at hm
    omega

/-! ### CurNew -/
theorem l1New_l (b : List Int) (hb : b.length ≤ 140737488351232) (d : Nat) : ∀ (k : Nat) (x i : Int), 0 ≤ i → (b.length : Int) - i = d → d < k → ∃ h, spec_l1New.l0 k b x i = some (b, 0, h) := by
  induction d with
  | zero =>
    intro k x i h0 hd hk
    obtain ⟨k, rfl⟩ : ∃ m, k = m + 1 := ⟨k - 1, by omega⟩
    simp only [spec_l1New.l0]
    rw [if_neg (by omega)]
    exact ⟨_, rfl⟩
  | succ d ih =>
    intro k x i h0 hd hk
    obtain ⟨k, rfl⟩ : ∃ m, k = m + 1 := ⟨k - 1, by omega⟩
    simp only [spec_l1New.l0]
    rw [if_pos (by omega)]
    by_cases h4 : i < 4000
    · rw [if_pos h4, if_pos h0, w64 (x := i + 1) (by omega) (by omega)]
      exact ih k _ _ (by omega) (by omega) (by omega)
    · rw [if_neg h4]
      exact ⟨_, rfl⟩
theorem l1New_ok (b : List Int) (hb : b.length ≤ 140737488351232) (k : Nat) (hk : b.length < k) : ∃ h, spec_l1New.f k b = some (b, 0, h) ∧ CurOk b 0 := by
  obtain ⟨h, e⟩ := l1New_l b hb b.length k (wrap64 (140873 + (b.length : Int))) 0 (by omega) (by omega) hk
  exact ⟨h, e, by omega, by omega, hb⟩

/-! ### L4 -/
def wf64 (x : Int) : Prop := (Lit.int .i64 x).wf = true
theorem wf64_of (x : Int) (h0 : -9223372036854775808 ≤ x) (h1 : x ≤ 9223372036854775807) : wf64 x := by
  unfold wf64
  simp [Lit.wf, IntKind.min, IntKind.max, IntKind.signed, IntKind.bits]; omega
theorem l4Draw_ok (b : List Int) (i h : Int) (k : Nat) (hk : 5 < k) (hc : CurOk b i) : ∃ l s e n i' h', spec_l4Draw.f k b i h = some (l, s, e, n, i', h') ∧ 1 ≤ l.length ∧ l.length ≤ 8 ∧ SizedL 13 l ∧ wf64 s ∧ wf64 e ∧ n.size ≤ 13 ∧ CurOk b i' := by
  unfold spec_l4Draw.f
  obtain ⟨l, i1, h1, e1, hl1, hl4, hs, c1⟩ := l2Draw_ok b i h k hk hc
  rw [e1]
  simp only [Option.bind_some]
  obtain ⟨x, i2, h2, e2, hx0, hx1, c2⟩ := l1Below_ok b i1 h1 8 c1
  rw [e2]
  simp only [Option.bind_some]
  obtain ⟨n, i3, h3, e3, hn, c3⟩ := l1Plain_ok b i2 h2 c2
  rw [e3]
  simp only [Option.bind_some]
  obtain ⟨y, i4, h4, e4, hy, c4⟩ := l1Int_ok b i3 h3 (([0, 2, 5, 20, 60] : List Int)) (by decide) c3
  rw [e4]
  have := hx1 (by omega)
  simp only [List.mem_cons, List.not_mem_nil, or_false] at hy
  refine ⟨_, _, _, _, _, _, rfl, hl1, by omega, hs, wf64_of _ (by omega) (by omega), ?_, hn, c4⟩
  rw [w64 (by omega) (by omega)]
  exact wf64_of _ (by omega) (by omega)
theorem l4Any_ok (b : List Int) (i h : Int) (k : Nat) (hk : 5 < k) (hc : CurOk b i) : ∃ l s e n i' h', spec_l4Any.f k b i h = some (l, s, e, n, i', h') ∧ l.length ≤ 8 ∧ SizedL 13 l ∧ wf64 s ∧ wf64 e ∧ n.size ≤ 13 ∧ CurOk b i' := by
  unfold spec_l4Any.f
  obtain ⟨l, s, e, n, i1, h1, e1, hl1, hl8, hs, ws, we, hn, c1⟩ := l4Draw_ok b i h k hk hc
  rw [e1]
  simp only [Option.bind_some]
  obtain ⟨x, i2, h2, e2, hx0, hx1, c2⟩ := l1Below_ok b i1 h1 12 c1
  rw [e2]
  simp only [Option.bind_some]
  by_cases x0 : x = 0
  · rw [if_pos x0]
    obtain ⟨l', i3, h3, e3, hl3, hs3, c3⟩ := l2Any_ok b i2 h2 k hk c2
    rw [e3]
    exact ⟨_, _, _, _, _, _, rfl, hl3, hs3, ws, we, hn, c3⟩
  rw [if_neg x0]
  by_cases x1 : x = 1
  · rw [if_pos x1]
    obtain ⟨y, i3, h3, e3, hy, c3⟩ := l1Int_ok b i2 h2 (([(-1), 99999, 100000] : List Int)) (by decide) c2
    rw [e3]
    simp only [List.mem_cons, List.not_mem_nil, or_false] at hy
    exact ⟨_, _, _, _, _, _, rfl, hl8, hs, wf64_of _ (by omega) (by omega), we, hn, c3⟩
  rw [if_neg x1]
  by_cases x2 : x = 2
  · rw [if_pos x2]
    obtain ⟨y, i3, h3, e3, hy, c3⟩ := l1Raw_ok b i2 h2 c2
    rw [e3]
    exact ⟨_, _, _, _, _, _, rfl, hl8, hs, ws, wf64_of _ hy.1 hy.2, hn, c3⟩
  rw [if_neg x2]
  by_cases x3 : x = 3
  · rw [if_pos x3]
    obtain ⟨y, i3, h3, e3, hy, c3⟩ := l1AnyPlain_ok b i2 h2 c2
    rw [e3]
    exact ⟨_, _, _, _, _, _, rfl, hl8, hs, ws, we, hy, c3⟩
  rw [if_neg x3]
  exact ⟨_, _, _, _, _, _, rfl, hl8, hs, ws, we, hn, c2⟩

/-! ### DrawAlarms -/
theorem DrawAlarmOk_ok (b : List Int) (hb : b.length ≤ 140737488351232) (k : Nat) (hk : b.length + 8 < k) : ∃ l s e n, spec_DrawAlarmOk.f k b = some (l, s, e, n) ∧ l.length ≤ 8 ∧ SizedL 13 l ∧ wf64 s ∧ wf64 e ∧ n.size ≤ 13 := by
  unfold spec_DrawAlarmOk.f
  obtain ⟨h, e, c⟩ := l1New_ok b hb k (by omega)
  rw [e]
  simp only [Option.bind_some]
  obtain ⟨l, s, e, n, i1, h1, e1, hl, hs, ws, we, hn, c1⟩ := l4Any_ok b 0 h k (by omega) c
  rw [e1]
  exact ⟨_, _, _, _, rfl, hl, hs, ws, we, hn⟩
theorem DrawAlarmText_ok (b : List Int) (hb : b.length ≤ 140737488351232) (k : Nat) (hk : b.length + 8 < k) : ∃ l s e n, spec_DrawAlarmText.f k b = some (l, s, e, n) ∧ l.length ≤ 8 ∧ SizedL 13 l ∧ wf64 s ∧ wf64 e ∧ n.size ≤ 13 := by
  unfold spec_DrawAlarmText.f
  obtain ⟨h, e, c⟩ := l1New_ok b hb k (by omega)
  rw [e]
  simp only [Option.bind_some]
  obtain ⟨l, s, e, n, i1, h1, e1, hl, hs, ws, we, hn, c1⟩ := l4Any_ok b 0 h k (by omega) c
  rw [e1]
  exact ⟨_, _, _, _, rfl, hl, hs, ws, we, hn⟩
theorem l4Copy_ok (l : List S56) (s e : Int) (n : ByteArray) (hl : l.length ≤ 1099511627776) : spec_l4Copy.f l s e n = some (l, s, e, n) := by
  unfold spec_l4Copy.f
  simp only [Option.bind_some, List.length_nil, List.nil_append]
  rw [if_pos (by omega)]
theorem DrawSameAlarm_ok (b : List Int) (hb : b.length ≤ 140737488351232) (k : Nat) (hk : b.length + 8 < k) : ∃ l s e n l' s' e' n', spec_DrawSameAlarm.f k b = some (l, s, e, n, l', s', e', n') ∧ l.length ≤ 8 ∧ l'.length ≤ 8 := by
  unfold spec_DrawSameAlarm.f
  obtain ⟨h, e, c⟩ := l1New_ok b hb k (by omega)
  rw [e]
  simp only [Option.bind_some]
  obtain ⟨l, s, e, n, i1, h1, e1, hl, hs, ws, we, hn, c1⟩ := l4Any_ok b 0 h k (by omega) c
  rw [e1]
  simp only [Option.bind_some]
  obtain ⟨t, i2, h2, e2, c2⟩ := l1Once_ok b i1 h1 2 c1
  rw [e2]
  simp only [Option.bind_some]
  by_cases ht : t = true
  · rw [if_pos ht, l4Copy_ok l s e n (by omega)]
    exact ⟨_, _, _, _, _, _, _, _, rfl, hl, hl⟩
  · rw [if_neg ht]
    obtain ⟨l', s', e', n', i3, h3, e3, hl', _, _, _, _, c3⟩ := l4Any_ok b i2 h2 k (by omega) c2
    rw [e3]
    exact ⟨_, _, _, _, _, _, _, _, rfl, hl, hl'⟩
theorem DrawOver_ok (b : List Int) (hb : b.length ≤ 140737488351232) (k : Nat) (hk : b.length + 8 < k) : ∃ l s e n x, spec_DrawOver.f k b = some (l, s, e, n, x) ∧ -9223372036854775808 ≤ x := by
  unfold spec_DrawOver.f
  obtain ⟨h, e, c⟩ := l1New_ok b hb k (by omega)
  rw [e]
  simp only [Option.bind_some]
  obtain ⟨l, s, e, n, i1, h1, e1, hl, hs, ws, we, hn, c1⟩ := l4Any_ok b 0 h k (by omega) c
  rw [e1]
  simp only [Option.bind_some]
  obtain ⟨y, i2, h2, e2, hy, c2⟩ := l1Int_ok b i1 h1 (([e, wrap64 (e - (Int.tmod e 7)), 0, 10, (-1)] : List Int)) (by simp) c1
  rw [e2]
  refine ⟨_, _, _, _, _, rfl, ?_⟩
  have hw : -9223372036854775808 ≤ wrap64 (e - (Int.tmod e 7)) := by unfold wrap64; omega
  have he : -9223372036854775808 ≤ e := by
    have := we
    unfold wf64 at this
    simp [Lit.wf, IntKind.min, IntKind.max, IntKind.signed, IntKind.bits] at this
    omega
  simp only [List.mem_cons, List.not_mem_nil, or_false] at hy
  rcases hy with rfl | rfl | rfl | rfl | rfl
  · exact he
  · exact hw
  · omega
  · omega
  · omega

/-! ### SameSet -/
def labEq (x y : S56) : Bool := (x.f0.toList == y.f0.toList) && (x.f1.toList == y.f1.toList)
def sameB (a b : List S56) (i : Int) : Bool := labEq (rd_T56 a i) (rd_T56 b i)
def sameSet (a b : List S56) : Bool := decide (a.length = b.length) && allFrom (sameB a b) a.length 0
theorem same_round (a b : List S56) (i : Int) (x : Option Bool) :
    (if (!((((rd_T56 a i).f0).toList) == (((rd_T56 b i).f0).toList)) || (!((((rd_T56 a i).f1).toList) == (((rd_T56 b i).f1).toList)))) = true then (some false) else x) = if sameB a b i = true then x else some false := by
  unfold sameB labEq
  cases ((rd_T56 a i).f0.toList == (rd_T56 b i).f0.toList) <;> cases ((rd_T56 a i).f1.toList == (rd_T56 b i).f1.toList) <;> simp
theorem spec_SameSet_eq (a b : List S56) (ha : a.length ≤ 140737488351232) (k : Nat) (hk : a.length < k) : spec_SameSet.f k a b = some (sameSet a b) := by
  unfold spec_SameSet.f sameSet
  by_cases h : a.length = b.length
  · rw [if_pos (by omega), decide_eq_true h, Bool.true_and]
    rw [all_loop (n := a.length) ha 0 (sameB a b) (fun k i => spec_SameSet.l0 k a b i) (some true) ?_ ?_ a.length k 0 (by omega) (by omega) (by omega) (by omega), bool_of_if]
    · intro k i _ h0 h1
      simp only [spec_SameSet.l0]
      rw [if_pos h1, if_pos h0, if_pos (by omega), same_round]
    · intro k _
      simp only [spec_SameSet.l0]
      rw [if_neg (by omega)]
  · rw [if_neg (by omega), decide_eq_false h]; rfl
theorem impl_SameSet_eq (a b : List S56) (ha : a.length ≤ 140737488351232) (k : Nat) (hk : a.length < k) : impl_SameSet.f k a b = some (sameSet a b) := by
  unfold impl_SameSet.f sameSet
  by_cases h : a.length = b.length
  · rw [if_pos (by omega), decide_eq_true h, Bool.true_and]
    rw [all_loop (n := a.length) ha 0 (sameB a b) (fun k i => impl_SameSet.l0 k a b a.length i) (some true) ?_ ?_ a.length k 0 (by omega) (by omega) (by omega) (by omega), bool_of_if]
    · intro k i _ h0 h1
      simp only [impl_SameSet.l0]
      rw [if_pos h1, if_pos h0, if_pos h1, if_pos (by omega), same_round]
    · intro k _
      simp only [impl_SameSet.l0]
      rw [if_neg (by omega)]
  · rw [if_neg (by omega), decide_eq_false h]; rfl

/-! ### SameAlarm -/
def sameAlarm (l : List S56) (s e : Int) (n : ByteArray) (l' : List S56) (s' e' : Int) (n' : ByteArray) : Bool := sameSet l l' && (decide (s = s') && (decide (e = e') && (n.toList == n'.toList)))
theorem spec_SameAlarm_eq (l : List S56) (s e : Int) (n : ByteArray) (l' : List S56) (s' e' : Int) (n' : ByteArray) (hl : l.length ≤ 140737488351232) (k : Nat) (hk : l.length < k) : spec_SameAlarm.f k l s e n l' s' e' n' = some (sameAlarm l s e n l' s' e' n') := by
  unfold spec_SameAlarm.f sameAlarm
  rw [spec_SameSet_eq l l' hl k hk]
  cases sameSet l l' <;> by_cases h1 : s = s' <;> by_cases h2 : e = e' <;> simp [h1, h2]
theorem impl_SameAlarm_eq (l : List S56) (s e : Int) (n : ByteArray) (l' : List S56) (s' e' : Int) (n' : ByteArray) (hl : l.length ≤ 140737488351232) (k : Nat) (hk : l.length < k) : impl_SameAlarm.f k l s e n l' s' e' n' = some (sameAlarm l s e n l' s' e' n') := by
  unfold impl_SameAlarm.f sameAlarm
  rw [impl_SameSet_eq l l' hl k hk]
  cases sameSet l l' <;> by_cases h1 : s = s' <;> by_cases h2 : e = e' <;> simp [h1, h2]

/-! ### AlarmOk -/
def alarmOk (l : List S56) (s e : Int) (note : ByteArray) : Bool := decide ((l.length : Int) > 0) && (setOk l && (inB s 0 99999 && (inB e s 99999 && plainOk note)))
theorem spec_AlarmOk_eq (l : List S56) (s e : Int) (note : ByteArray) (hl : l.length ≤ 1048576) (M : Nat) (hM : M ≤ 1048576) (hs : SizedL M l) (hn : note.size ≤ 1048576) (k : Nat) (hk : 4194304 < k) : spec_AlarmOk.f k l s e note = some (alarmOk l s e note) := by
  unfold spec_AlarmOk.f alarmOk
  rw [spec_SetOk_eq l hl M hM hs k (by omega), spec_l1In_eq, spec_l1In_eq, spec_PlainOk_eq note (by omega) k (by omega)]
  cases setOk l <;> cases inB s 0 99999 <;> cases inB e s 99999 <;> by_cases h : 0 < l.length <;> simp [h]
theorem impl_AlarmOk_eq (l : List S56) (s e : Int) (note : ByteArray) (hl : l.length ≤ 1048576) (M : Nat) (hM : M ≤ 1048576) (hs : SizedL M l) (hn : note.size ≤ 1048576) (k : Nat) (hk : 4194304 < k) : impl_AlarmOk.f k l s e note = some (alarmOk l s e note) := by
  unfold impl_AlarmOk.f alarmOk
  rw [impl_SetOk_eq l hl M hM hs k (by omega), impl_in_eq, impl_in_eq, impl_PlainOk_eq note (by omega) k (by omega)]
  cases setOk l <;> cases inB s 0 99999 <;> cases inB e s 99999 <;> by_cases h : 0 < l.length <;> simp [h]

/-! ### SetTextS -/
def txt (s : ByteArray) (x : S56) : ByteArray := (((s ++ x.f0) ++ (⟨#[61, 34]⟩ : ByteArray)) ++ x.f1) ++ (⟨#[34]⟩ : ByteArray)
def restB : List S56 → ByteArray → ByteArray
  | [], s => s ++ (⟨#[125]⟩ : ByteArray)
  | x :: l, s => restB l (txt (s ++ (⟨#[44, 32]⟩ : ByteArray)) x)
def textOf : List S56 → ByteArray
  | [] => (⟨#[123]⟩ : ByteArray) ++ (⟨#[125]⟩ : ByteArray)
  | x :: l => restB l (txt (⟨#[123]⟩ : ByteArray) x)
def setText (l : List S56) : ByteArray := if setOk l = true then textOf l else (⟨#[]⟩ : ByteArray)
theorem setOk_le (l : List S56) (h : setOk l = true) : l.length ≤ 4 := by
  unfold setOk at h
  rw [Bool.and_eq_true] at h
  exact of_decide_eq_true h.2
theorem sz2 : ∀ a : UInt8, ∀ b : UInt8, (⟨#[a, b]⟩ : ByteArray).size = 2 := fun _ _ => rfl
theorem sz1 : ∀ a : UInt8, (⟨#[a]⟩ : ByteArray).size = 1 := fun _ => rfl
theorem spec_SetText_l (l : List S56) (hl : l.length ≤ 4) (hs : SizedL 1048576 l) (d : Nat) : ∀ (k : Nat) (s : ByteArray) (i : Int), 0 < i → i + d = (l.length : Int) → s.size + d * 4194304 ≤ 1099511627776 → d < k →
    spec_SetText.l0 k l s i = some (restB (l.drop i.toNat) s) := by
  induction d with
  | zero =>
    intro k s i h0 hd hsz hk
    obtain ⟨k, rfl⟩ : ∃ m, k = m + 1 := ⟨k - 1, by omega⟩
    simp only [spec_SetText.l0]
    rw [if_neg (by omega), if_pos (by omega), List.drop_eq_nil_of_le (by omega)]; rfl
  | succ d ih =>
    intro k s i h0 hd hsz hk
    obtain ⟨k, rfl⟩ : ∃ m, k = m + 1 := ⟨k - 1, by omega⟩
    have hm := hs _ (rd_mem l i (by omega) (by omega))
    simp only [spec_SetText.l0]
    rw [if_pos (by omega), if_pos (by omega), if_pos (by omega), if_pos (by omega)]
    rw [if_pos (by simp only [ByteArray.size_append, sz2, sz1]; omega), if_pos (by simp only [ByteArray.size_append, sz2, sz1]; omega), if_pos (by simp only [ByteArray.size_append, sz2, sz1]; omega), if_pos (by simp only [ByteArray.size_append, sz2, sz1]; omega)]
    rw [w64 (x := i + 1) (by omega) (by omega), drop_cons z56 l i (by omega) (by omega)]
    exact ih k _ (i + 1) (by omega) (by omega) (by simp only [ByteArray.size_append, sz2, sz1]; omega) (by omega)
theorem spec_SetText_eq (l : List S56) (hl : l.length ≤ 1048576) (hs : SizedL 1048576 l) (k : Nat) (hk : 4194304 < k) : spec_SetText.f k l = some (setText l) := by
  unfold spec_SetText.f setText
  rw [spec_SetOk_eq l hl 1048576 (by omega) hs k (by omega)]
  simp only [Option.bind_some]
  by_cases h : setOk l = true
  · rw [if_pos h, if_pos h]
    have h4 := setOk_le l h
    obtain ⟨k, rfl⟩ : ∃ m, k = m + 1 := ⟨k - 1, by omega⟩
    cases l with
    | nil =>
      simp only [spec_SetText.l0]
      rw [if_neg (by simp), if_pos (by decide)]; rfl
    | cons x l =>
      have hm := hs x List.mem_cons_self
      have e := spec_SetText_l (x :: l) h4 hs l.length k (txt (⟨#[123]⟩ : ByteArray) x) 1 (by omega) (by simp; omega) (by simp only [txt, ByteArray.size_append, sz2, sz1]; simp at h4; omega) (by simp at h4; omega)
      simp only [spec_SetText.l0]
      have hr : rd_T56 (x :: l) 0 = x := rfl
      rw [if_pos (by simp only [List.length_cons]; omega), if_neg (by omega), if_pos (by omega), hr]
      rw [if_pos (by simp only [ByteArray.size_append, sz2, sz1]; omega), if_pos (by simp only [ByteArray.size_append, sz2, sz1]; omega), if_pos (by simp only [ByteArray.size_append, sz2, sz1]; omega), if_pos (by simp only [ByteArray.size_append, sz2, sz1]; omega)]
      rw [w64 (x := 0 + 1) (by omega) (by omega)]
      exact e
  · rw [if_neg h, if_neg h]

/-! ### SetText -/
def txt1 (x : S56) : ByteArray := ((x.f0 ++ (⟨#[61, 34]⟩ : ByteArray)) ++ x.f1) ++ (⟨#[34]⟩ : ByteArray)
theorem impl_SetText_l (l : List S56) (hl : l.length ≤ 4) (hs : SizedL 1048576 l) (d : Nat) : ∀ (k : Nat) (out : List ByteArray) (i : Int), 0 ≤ i → i + d = (l.length : Int) → out.length ≤ i.toNat → d < k →
    impl_SetText.l0 k out l l.length i = impl_SetText.l0 (k - d) (out ++ (l.drop i.toNat).map txt1) l l.length l.length := by
  induction d with
  | zero =>
    intro k out i h0 hd ho hk
    obtain rfl : i = (l.length : Int) := by omega
    rw [List.drop_eq_nil_of_le (by omega)]
    simp
  | succ d ih =>
    intro k out i h0 hd ho hk
    obtain ⟨k, rfl⟩ : ∃ m, k = m + 1 := ⟨k - 1, by omega⟩
    have hm := hs _ (rd_mem l i (by omega) (by omega))
    rw [drop_cons z56 l i h0 (by omega), List.map_cons]
    have e : k + 1 - (d + 1) = k - d := by omega
    rw [e]
    conv => lhs; unfold impl_SetText.l0
    rw [if_pos (by omega), if_pos (by omega), if_pos (by omega)]
    rw [if_pos (by omega), if_pos (by simp only [ByteArray.size_append, sz2, sz1]; omega), if_pos (by simp only [ByteArray.size_append, sz2, sz1]; omega), if_pos (by omega)]
    rw [w64 (x := i + 1) (by omega) (by omega), ih k _ (i + 1) (by omega) (by omega) (by simp; omega) (by omega), List.append_assoc]
    rfl
theorem rest_list (l : List S56) : ∀ s : ByteArray, (restB l s).data.toList = s.data.toList ++ Lib.joinTail [44, 32] ((l.map txt1).map (·.data.toList)) ++ [125] := by
  induction l with
  | nil => intro s; simp [restB, Lib.joinTail]
  | cons x l ih =>
    intro s
    simp only [restB]
    rw [ih]
    simp [txt, txt1, Lib.joinTail]
theorem text_join (l : List S56) : ((⟨#[123]⟩ : ByteArray) ++ Foreign.joinBytes (l.map txt1) (⟨#[44, 32]⟩ : ByteArray)) ++ (⟨#[125]⟩ : ByteArray) = textOf l := by
  have hinj : ∀ a b : ByteArray, a.data.toList = b.data.toList → a = b := by
    intro a b h
    cases a
    cases b
    congr
    simpa using h
  apply hinj
  cases l with
  | nil => simp [textOf, Foreign.joinBytes, Lib.join_nil]
  | cons x l =>
    simp only [textOf]
    rw [rest_list]
    simp only [Foreign.joinBytes, List.map_cons, Lib.join_cons]
    simp [txt, txt1]
theorem sum_txt (l : List S56) (hs : SizedL 1048576 l) : (Lib.joinTail [44, 32] ((l.map txt1).map (·.data.toList))).length ≤ l.length * 4194304 := by
  induction l with
  | nil => simp [Lib.joinTail]
  | cons x l ih =>
    have hm := hs x List.mem_cons_self
    have := ih (fun y hy => hs y (List.mem_cons_of_mem _ hy))
    have e : (txt1 x).data.toList.length = x.f0.size + 2 + x.f1.size + 1 := by
      have : (txt1 x).data.toList.length = (txt1 x).size := by rw [Array.length_toList]; rfl
      rw [this]
      simp only [txt1, ByteArray.size_append, sz2, sz1]
    have e2 : (Lib.joinTail [44, 32] (((x :: l).map txt1).map (·.data.toList))).length = 2 + (txt1 x).data.toList.length + (Lib.joinTail [44, 32] ((l.map txt1).map (·.data.toList))).length := by
      simp [Lib.joinTail]
      omega
    rw [e2, e, List.length_cons, Nat.succ_mul]
    omega
theorem join_some (l : List S56) (hl : l.length ≤ 4) (hs : SizedL 1048576 l) : strings_Join.f (l.map txt1) (⟨#[44, 32]⟩ : ByteArray) = some (Foreign.joinBytes (l.map txt1) (⟨#[44, 32]⟩ : ByteArray)) ∧ (Foreign.joinBytes (l.map txt1) (⟨#[44, 32]⟩ : ByteArray)).size ≤ 1099511627776 := by
  have hlen : (Lib.join ((l.map txt1).map (·.data.toList)) (⟨#[44, 32]⟩ : ByteArray).data.toList).length ≤ 1073741824 := by
    cases l with
    | nil => simp [Lib.join_nil]
    | cons x l =>
      have hm := hs x List.mem_cons_self
      have h2 := sum_txt l (fun y hy => hs y (List.mem_cons_of_mem _ hy))
      have e : (txt1 x).data.toList.length = x.f0.size + 2 + x.f1.size + 1 := by
        have : (txt1 x).data.toList.length = (txt1 x).size := by rw [Array.length_toList]; rfl
        rw [this]
        simp only [txt1, ByteArray.size_append, sz2, sz1]
      simp only [List.map_cons, Lib.join_cons, List.length_append]
      have h3 : (Lib.joinTail (⟨#[44, 32]⟩ : ByteArray).data.toList ((l.map txt1).map (·.data.toList))).length ≤ l.length * 4194304 := h2
      rw [e]
      simp at hl
      omega
  constructor
  · unfold strings_Join.f Foreign.joinOf
    rw [if_pos ⟨by simp; omega, by omega⟩]
  · have : (Foreign.joinBytes (l.map txt1) (⟨#[44, 32]⟩ : ByteArray)).size = (Lib.join ((l.map txt1).map (·.data.toList)) (⟨#[44, 32]⟩ : ByteArray).data.toList).length := by
      simp [Foreign.joinBytes, ByteArray.size]
    omega
theorem impl_SetText_eq (l : List S56) (hl : l.length ≤ 1048576) (hs : SizedL 1048576 l) (k : Nat) (hk : 4194304 < k) : impl_SetText.f k l = some (setText l) := by
  unfold impl_SetText.f setText
  rw [impl_SetOk_eq l hl 1048576 (by omega) hs k (by omega)]
  simp only [Option.bind_some]
  by_cases h : setOk l = true
  · rw [if_pos h, if_pos h]
    have h4 := setOk_le l h
    obtain ⟨j1, j2⟩ := join_some l h4 hs
    rw [impl_SetText_l l h4 hs l.length k [] 0 (by omega) (by omega) (by simp) (by omega)]
    obtain ⟨m, hm⟩ : ∃ m, k - l.length = m + 1 := ⟨k - l.length - 1, by omega⟩
    rw [hm]
    simp only [impl_SetText.l0]
    rw [if_neg (by omega)]
    have e : ([] : List ByteArray) ++ (l.drop (0 : Int).toNat).map txt1 = l.map txt1 := by simp
    rw [e, j1]
    simp only [Option.bind_some]
    rw [if_pos (by omega), if_pos (by simp only [ByteArray.size_append, sz1]; omega), text_join]
  · rw [if_neg h, if_neg h]

/-! ### Sum -/
theorem bits_xor_nat (k : IntKind) (j : Nat) (hj : j ≤ k.bits) (hk : ∀ n : Int, 0 ≤ n → n < 2 ^ j → k.wrap n = n) (a b : Nat) (ha : a < 2 ^ j) (hb : b < 2 ^ j) :
    Go.bits .xor k a b = ((a ^^^ b : Nat) : Int) := by
  have hp : 2 ^ j ≤ 2 ^ k.bits := Nat.pow_le_pow_right (by decide) hj
  have ha' : a % 2 ^ k.bits = a := Nat.mod_eq_of_lt (Nat.lt_of_lt_of_le ha hp)
  have hb' : b % 2 ^ k.bits = b := Nat.mod_eq_of_lt (Nat.lt_of_lt_of_le hb hp)
  simp only [Go.bits, BitVec.ofInt_natCast, BitVec.toNat_xor, BitVec.toNat_ofNat, ha', hb']
  exact hk _ (Int.natCast_nonneg _) (by exact_mod_cast Nat.xor_lt_two_pow ha hb)
theorem xor_u32 (a b : Int) (ha : 0 ≤ a) (ha' : a < 4294967296) (hb : 0 ≤ b) (hb' : b < 4294967296) : Go.bits .xor .u32 a b = ((a.toNat ^^^ b.toNat : Nat) : Int) := by
  obtain ⟨a, rfl⟩ := Int.eq_ofNat_of_zero_le ha
  obtain ⟨b, rfl⟩ := Int.eq_ofNat_of_zero_le hb
  exact bits_xor_nat .u32 32 (by decide) (fun n h0 h1 => by rw [IntKind.wrap_u32]; omega) a b (by omega) (by omega)
theorem xor_i64 (a b : Int) (ha : 0 ≤ a) (ha' : a < 4294967296) (hb : 0 ≤ b) (hb' : b < 4294967296) : Go.bits .xor .i64 a b = ((a.toNat ^^^ b.toNat : Nat) : Int) := by
  obtain ⟨a, rfl⟩ := Int.eq_ofNat_of_zero_le ha
  obtain ⟨b, rfl⟩ := Int.eq_ofNat_of_zero_le hb
  exact bits_xor_nat .i64 32 (by decide) (fun n h0 h1 => by rw [IntKind.wrap_i64]; omega) a b (by omega) (by omega)
theorem xor_lt32 (a b : Int) (ha : 0 ≤ a) (ha' : a < 4294967296) (hb : 0 ≤ b) (hb' : b < 4294967296) : ((a.toNat ^^^ b.toNat : Nat) : Int) < 4294967296 := by
  have := Nat.xor_lt_two_pow (n := 32) (x := a.toNat) (y := b.toNat) (by omega) (by omega)
  omega
theorem mask32 (x : Int) (h0 : 0 ≤ x) (h1 : x < 9223372036854775808) : Go.bits .and .i64 x 4294967295 = x % 4294967296 :=
  Go.bits_mask .i64 63 (by decide) (fun n h0 h1 => by rw [IntKind.wrap_i64]; omega) 32 (by decide) x h0 h1
def sumStep (s : ByteArray) (n i : Int) : Int := (((n.toNat ^^^ (bt s i).toNat : Nat) : Int) * 16777619) % 4294967296
def sumFrom (s : ByteArray) : Nat → Int → Int → Int
  | 0, _, n => n
  | d + 1, i, n => sumFrom s d (i + 1) (sumStep s n i)
def sumOf (s : ByteArray) : Int := sumFrom s s.size 0 2166136261
theorem sumStep_range (s : ByteArray) (n i : Int) : 0 ≤ sumStep s n i ∧ sumStep s n i < 4294967296 := by unfold sumStep; omega
theorem sumFrom_range (s : ByteArray) (d : Nat) : ∀ i n : Int, 0 ≤ n → n < 4294967296 → 0 ≤ sumFrom s d i n ∧ sumFrom s d i n < 4294967296 := by
  induction d with
  | zero => intro i n h0 h1; exact ⟨h0, h1⟩
  | succ d ih => intro i n _ _; exact ih _ _ (sumStep_range s n i).1 (sumStep_range s n i).2
theorem sumOf_range (s : ByteArray) : 0 ≤ sumOf s ∧ sumOf s < 4294967296 := sumFrom_range s _ _ _ (by omega) (by omega)
theorem spec_sum_step (s : ByteArray) (n i : Int) (h0 : 0 ≤ n) (h1 : n < 4294967296) :
    Go.bits .and .i64 (wrap64 ((Go.bits .xor .i64 n (wrap64 (bt s i))) * 16777619)) 4294967295 = sumStep s n i := by
  have hb := bt_range s i
  rw [w64 (x := bt s i) (by omega) (by omega), xor_i64 n (bt s i) h0 h1 hb.1 (by omega)]
  have := xor_lt32 n (bt s i) h0 h1 hb.1 (by omega)
  rw [w64 (by omega) (by omega), mask32 _ (by omega) (by omega)]
  rfl
theorem impl_sum_step (s : ByteArray) (n i : Int) (h0 : 0 ≤ n) (h1 : n < 4294967296) :
    (((Go.bits .xor .u32 n ((bt s i) % 4294967296)) * 16777619) % 4294967296) = sumStep s n i := by
  have hb := bt_range s i
  rw [show bt s i % 4294967296 = bt s i by omega, xor_u32 n (bt s i) h0 h1 hb.1 (by omega)]
  rfl

/-! ### Finger -/
theorem textOf_le (l : List S56) (hl : l.length ≤ 4) (hs : SizedL 1048576 l) : (textOf l).size ≤ 4194000 * 4 + 100 := by
  have key : ∀ (l : List S56), SizedL 1048576 l → ∀ s : ByteArray, (restB l s).size ≤ s.size + l.length * 2097160 + 1 := by
    intro l
    induction l with
    | nil => intro _ s; simp only [restB, ByteArray.size_append, sz1]; simp
    | cons x l ih =>
      intro hs s
      have hm := hs x List.mem_cons_self
      have := ih (fun y hy => hs y (List.mem_cons_of_mem _ hy)) (txt (s ++ (⟨#[44, 32]⟩ : ByteArray)) x)
      simp only [restB]
      simp only [txt, ByteArray.size_append, sz2, sz1] at this ⊢
      rw [List.length_cons, Nat.succ_mul]
      omega
  cases l with
  | nil => simp only [textOf, ByteArray.size_append, sz1]; omega
  | cons x l =>
    have hm := hs x List.mem_cons_self
    have := key l (fun y hy => hs y (List.mem_cons_of_mem _ hy)) (txt (⟨#[123]⟩ : ByteArray) x)
    simp only [textOf]
    simp only [txt, ByteArray.size_append, sz2, sz1] at this ⊢
    simp at hl
    omega
theorem setText_le (l : List S56) (hs : SizedL 1048576 l) : (setText l).size ≤ 16776100 := by
  unfold setText
  by_cases h : setOk l = true
  · rw [if_pos h]
    have := textOf_le l (setOk_le l h) hs
    omega
  · rw [if_neg h]
    exact Nat.zero_le _
def finger (l : List S56) : Int := Int.tmod (Go.bits .xor .i64 (sumOf (setText l)) (sumOf (setText l) / 65536)) 32

/-! ### NumText -/
/-- The digits of v, none for 0. -/
def Dl (v : Nat) : List UInt8 := if v = 0 then [] else Go.Lib.decDigits v
theorem Dl_step (v : Nat) (h : v ≠ 0) : Dl v = Dl (v / 10) ++ [UInt8.ofNat (48 + v % 10)] := by
  unfold Dl
  rw [if_neg h]
  by_cases h1 : v < 10
  · rw [Go.Lib.decDigits_one h1, if_pos (by omega), Nat.mod_eq_of_lt h1]; rfl
  · rw [if_neg (by omega), Go.Lib.decDigits, dif_neg h1]
theorem nd_le : ∀ (m v : Nat), v < 10 ^ (m + 1) → Go.Lib.nDigits v ≤ m + 1
  | 0, v, h => by rw [Go.Lib.nDigits_small (by simpa using h)]; omega
  | m + 1, v, h => by
    by_cases h1 : v < 10
    · rw [Go.Lib.nDigits_small h1]; omega
    · rw [Nat.pow_succ] at h
      rw [Go.Lib.nDigits_big h1]
      have := nd_le m (v / 10) (by omega)
      omega
theorem strOfD (d : Nat) (hd : d < 10) (s : List UInt8) : strOfNums [(48 + (d : Int)) % 256] ++ (⟨s.toArray⟩ : ByteArray) = ⟨(UInt8.ofNat (48 + d) :: s).toArray⟩ := by
  have e : ((48 + (d : Int)) % 256).toNat = 48 + d := by omega
  unfold strOfNums
  rw [List.map_cons, List.map_nil, e, ByteArray.mk_append_mk]
  rfl
theorem numLoop (d : Nat) : ∀ (k v : Nat) (x0 x : Int) (s : List UInt8), x.natAbs = v → v < 10 ^ d → v ≤ 9223372036854775808 → s.length + d ≤ 1000 → d < k →
    spec_NumText.l0 k x0 ⟨s.toArray⟩ x = some ⟨((if x0 < 0 then [45] else []) ++ (Dl v ++ s)).toArray⟩ := by
  induction d with
  | zero =>
    intro k v x0 x s hx h1 _ hs hk
    obtain ⟨k, rfl⟩ : ∃ m, k = m + 1 := ⟨k - 1, by omega⟩
    have hv : v = 0 := by omega
    subst hv
    have hx0 : x = 0 := by omega
    simp only [spec_NumText.l0]
    rw [if_pos hx0]
    have hz : (⟨s.toArray⟩ : ByteArray).size = s.length := by simp [ByteArray.size]
    by_cases hn : x0 < 0
    · rw [if_pos hn, if_pos hn, if_pos (by rw [hz]; omega)]
      have e : (⟨#[45]⟩ : ByteArray) ++ (⟨s.toArray⟩ : ByteArray) = ⟨([45] ++ s).toArray⟩ := ByteArray.mk_append_mk [45] s
      rw [e]; simp [Dl]
    · rw [if_neg hn, if_neg hn]; simp [Dl]
  | succ d ih =>
    intro k v x0 x s hx h1 h2 hs hk
    have hz : (⟨s.toArray⟩ : ByteArray).size = s.length := by simp [ByteArray.size]
    by_cases hv : v = 0
    · obtain ⟨k, rfl⟩ : ∃ m, k = m + 1 := ⟨k - 1, by omega⟩
      subst hv
      have hx0 : x = 0 := by omega
      simp only [spec_NumText.l0]
      rw [if_pos hx0]
      by_cases hn : x0 < 0
      · rw [if_pos hn, if_pos hn, if_pos (by rw [hz]; omega)]
        have e : (⟨#[45]⟩ : ByteArray) ++ (⟨s.toArray⟩ : ByteArray) = ⟨([45] ++ s).toArray⟩ := ByteArray.mk_append_mk [45] s
        rw [e]; simp [Dl]
      · rw [if_neg hn, if_neg hn]; simp [Dl]
    · obtain ⟨k, rfl⟩ : ∃ m, k = m + 1 := ⟨k - 1, by omega⟩
      have hx0 : ¬ x = 0 := by omega
      have hp : v < 10 ^ d * 10 := by rw [← Nat.pow_succ]; exact h1
      have one : ∀ c : Int, (strOfNums [c]).size = 1 := fun c => by simp [strOfNums, ByteArray.size]
      have hd10 : v % 10 < 10 := Nat.mod_lt _ (by omega)
      have key : ∀ (y : Int), y.natAbs = v / 10 → spec_NumText.l0 k x0 (strOfNums [(48 + ((v % 10 : Nat) : Int)) % 256] ++ ⟨s.toArray⟩) y = some ⟨((if x0 < 0 then [45] else []) ++ (Dl v ++ s)).toArray⟩ := by
        intro y hy
        rw [strOfD _ hd10, ih k (v / 10) x0 y _ hy (by omega) (by omega) (by simp; omega) (by omega), Dl_step v hv]
        simp
      simp only [spec_NumText.l0]
      rw [if_neg hx0]
      simp only [Option.bind_some]
      rcases Int.lt_or_le x 0 with hneg | hpos
      · obtain ⟨u, rfl⟩ : ∃ u : Nat, x = -(u : Int) := ⟨x.natAbs, by omega⟩
        have hu : u = v := by omega
        subst hu
        have et : Int.tmod (-(u : Int)) 10 = -(((u % 10 : Nat)) : Int) := by
          rw [Int.neg_tmod, Int.tmod_eq_emod_of_nonneg (by omega)]; omega
        have ed : Int.tdiv (-(u : Int)) 10 = -(((u / 10 : Nat)) : Int) := by
          rw [Int.neg_tdiv, Int.tdiv_eq_ediv_of_nonneg (by omega)]; omega
        rw [et, ed]
        by_cases hm : -(((u % 10 : Nat)) : Int) < 0
        · rw [if_pos hm, if_pos (by rw [one, hz]; omega), w64 (x := -(-((u % 10 : Nat) : Int))) (by omega) (by omega), Int.neg_neg, w64 (x := 48 + ((u % 10 : Nat) : Int)) (by omega) (by omega), w64 (x := -((u / 10 : Nat) : Int)) (by omega) (by omega)]
          exact key _ (by omega)
        · have h0 : ((u % 10 : Nat) : Int) = 0 := by omega
          rw [if_neg hm, if_pos (by rw [one, hz]; omega), w64 (x := -((u / 10 : Nat) : Int)) (by omega) (by omega)]
          have := key (-((u / 10 : Nat) : Int)) (by omega)
          rw [h0] at this ⊢
          have e0 : wrap64 (48 + -(0 : Int)) = 48 + 0 := (w64 (by omega) (by omega)).trans (by omega)
          rw [e0]
          exact this
      · obtain ⟨u, rfl⟩ : ∃ u : Nat, x = (u : Int) := ⟨x.natAbs, by omega⟩
        have hu : u = v := by omega
        subst hu
        have et : Int.tmod (u : Int) 10 = ((u % 10 : Nat) : Int) := by
          rw [Int.tmod_eq_emod_of_nonneg (by omega)]; omega
        have ed : Int.tdiv (u : Int) 10 = ((u / 10 : Nat) : Int) := by
          rw [Int.tdiv_eq_ediv_of_nonneg (by omega)]; omega
        rw [et, ed, if_neg (by omega), if_pos (by rw [one, hz]; omega), w64 (x := 48 + ((u % 10 : Nat) : Int)) (by omega) (by omega), w64 (x := ((u / 10 : Nat) : Int)) (by omega) (by omega)]
        exact key _ (by omega)
theorem spec_NumText_eq (n : Int) (h : (Lit.int .i64 n).wf = true) (k : Nat) (hk : 30 < k) : spec_NumText.f k n = some (Foreign.itoaBytes n) := by
  obtain ⟨h0, h1⟩ : -9223372036854775808 ≤ n ∧ n ≤ 9223372036854775807 := by
    have := h
    simp [Lit.wf, IntKind.min, IntKind.max, IntKind.signed, IntKind.bits] at this
    omega
  unfold spec_NumText.f Foreign.itoaBytes Go.Lib.itoa
  by_cases hz : n = 0
  · subst hz
    rw [if_pos rfl, if_neg (by omega)]
    have e : Go.Lib.decDigits (0 : Int).toNat = [48] := Go.Lib.decDigits_one (by decide)
    rw [e]
  · rw [if_neg hz]
    have := numLoop 20 k n.natAbs n n [] rfl (by omega) (by omega) (by decide) (by omega)
    have ea : (⟨([] : List UInt8).toArray⟩ : ByteArray) = (⟨#[]⟩ : ByteArray) := rfl
    rw [ea] at this
    rw [this]
    have e2 : Dl n.natAbs = Go.Lib.decDigits n.natAbs := by unfold Dl; rw [if_neg (by omega)]
    rw [e2]
    by_cases hn : n < 0
    · rw [if_pos hn, if_pos hn]; simp
    · rw [if_neg hn, if_neg hn]
      have e3 : n.natAbs = n.toNat := by omega
      rw [e3]; simp
theorem impl_NumText_eq (n : Int) (h : (Lit.int .i64 n).wf = true) : impl_NumText.f n = some (Foreign.itoaBytes n) := by
  obtain ⟨h0, h1⟩ : -9223372036854775808 ≤ n ∧ n ≤ 9223372036854775807 := by
    have := h
    simp [Lit.wf, IntKind.min, IntKind.max, IntKind.signed, IntKind.bits] at this
    omega
  unfold impl_NumText.f strconv_Itoa.f Foreign.itoaOf
  rw [if_pos ⟨h0, h1⟩]; rfl
theorem itoa_le (n : Int) (h : (Lit.int .i64 n).wf = true) : (Foreign.itoaBytes n).size ≤ 30 := by
  obtain ⟨h0, h1⟩ : -9223372036854775808 ≤ n ∧ n ≤ 9223372036854775807 := by
    have := h
    simp [Lit.wf, IntKind.min, IntKind.max, IntKind.signed, IntKind.bits] at this
    omega
  have e : (Foreign.itoaBytes n).size = (Go.Lib.itoa n).length := by unfold Foreign.itoaBytes; simp [ByteArray.size]
  rw [e]
  unfold Go.Lib.itoa
  by_cases hn : n < 0
  · rw [if_pos hn, List.length_cons, Go.Lib.decDigits_length]
    have := nd_le 19 n.natAbs (by omega)
    omega
  · rw [if_neg hn, Go.Lib.decDigits_length]
    have := nd_le 19 n.toNat (by omega)
    omega

/-! ### AlarmText -/
def alarmText (l : List S56) (s e : Int) (n : ByteArray) : ByteArray := if alarmOk l s e n = true then ((((((setText l ++ (⟨#[32]⟩ : ByteArray)) ++ Foreign.itoaBytes s) ++ (⟨#[45]⟩ : ByteArray)) ++ Foreign.itoaBytes e) ++ (⟨#[32, 34]⟩ : ByteArray)) ++ n) ++ (⟨#[34]⟩ : ByteArray) else (⟨#[]⟩ : ByteArray)
theorem spec_AlarmText_eq (l : List S56) (s e : Int) (n : ByteArray) (hl : l.length ≤ 1048576) (hs : SizedL 1048576 l) (hn : n.size ≤ 1048576) (ws : (Lit.int .i64 s).wf = true) (we : (Lit.int .i64 e).wf = true) (k : Nat) (hk : 16777216 < k) :
    spec_AlarmText.f k l s e n = some (alarmText l s e n) := by
  have z0 := setText_le l hs
  have z1 := itoa_le s ws
  have z2 := itoa_le e we
  unfold spec_AlarmText.f alarmText
  rw [spec_AlarmOk_eq l s e n hl 1048576 (by omega) hs hn k (by omega)]
  simp only [Option.bind_some]
  by_cases h : alarmOk l s e n = true
  · rw [if_pos h, if_pos h, spec_SetText_eq l hl hs k (by omega), spec_NumText_eq s ws k (by omega), spec_NumText_eq e we k (by omega)]
    simp only [Option.bind_some, ByteArray.size_append, sz1, sz2]
    rw [if_pos (by omega), if_pos (by omega), if_pos (by omega), if_pos (by omega), if_pos (by omega), if_pos (by omega), if_pos (by omega)]
  · rw [if_neg h, if_neg h]
theorem impl_AlarmText_eq (l : List S56) (s e : Int) (n : ByteArray) (hl : l.length ≤ 1048576) (hs : SizedL 1048576 l) (hn : n.size ≤ 1048576) (ws : (Lit.int .i64 s).wf = true) (we : (Lit.int .i64 e).wf = true) (k : Nat) (hk : 16777216 < k) :
    impl_AlarmText.f k l s e n = some (alarmText l s e n) := by
  have z0 := setText_le l hs
  have z1 := itoa_le s ws
  have z2 := itoa_le e we
  unfold impl_AlarmText.f alarmText
  rw [impl_AlarmOk_eq l s e n hl 1048576 (by omega) hs hn k (by omega)]
  simp only [Option.bind_some]
  by_cases h : alarmOk l s e n = true
  · rw [if_pos h, if_pos h, impl_SetText_eq l hl hs k (by omega), impl_NumText_eq s ws, impl_NumText_eq e we]
    simp only [Option.bind_some, ByteArray.size_append, sz1, sz2]
    rw [if_pos (by omega), if_pos (by omega), if_pos (by omega), if_pos (by omega), if_pos (by omega), if_pos (by omega), if_pos (by omega)]
  · rw [if_neg h, if_neg h]

theorem sameSet_self (l : List S56) : sameSet l l = true := by
  unfold sameSet
  simp [allFrom_iff, sameB, labEq]
theorem sameAlarm_self (l : List S56) (s e : Int) (n : ByteArray) : sameAlarm l s e n l s e n = true := by
  unfold sameAlarm
  rw [sameSet_self]; simp
theorem nil_list : (⟨#[]⟩ : ByteArray).toList = ([] : List UInt8) := by
  unfold ByteArray.toList
  unfold ByteArray.toList.loop
  rfl
theorem alarmText_some (l : List S56) (s e : Int) (n : ByteArray) : ((alarmText l s e n).toList != ([] : List UInt8)) = alarmOk l s e n := by
  unfold alarmText
  by_cases h : alarmOk l s e n = true
  · rw [if_pos h, h, bne_iff_ne]
    intro hh
    have h2 := ba_ext (hh.trans nil_list.symm)
    have h3 := congrArg ByteArray.size h2
    simp only [ByteArray.size_append, sz1] at h3
    have h4 : (⟨#[]⟩ : ByteArray).size = 0 := rfl
    omega
  · rw [if_neg h, Bool.eq_false_iff.mpr h, nil_list]
    rfl
theorem over_step (e x : Int) (h0 : -9223372036854775808 ≤ x) (h : e ≤ x) (hx : ¬ x > 1099511627776) : e ≤ wrap64 (x + 1) := by
  rw [w64 (by omega) (by omega)]; omega
theorem FnAlarms : laws_FnAlarms.Pure := by
  intro b hb _ _
  obtain ⟨m, hm⟩ : ∃ m : Nat, 16777216 < m := ⟨16777217, by omega⟩
  refine ⟨m, ?_⟩
  unfold laws_FnAlarms.f laws_big.f
  simp only [Option.bind_some]
  by_cases hz : (b.length : Int) > 1048576
  · rw [if_pos (decide_eq_true hz)]
  · rw [if_neg (by simpa using hz)]
    obtain ⟨l, s, e, n, e1, hl, hs, ws, we, hn⟩ := DrawAlarmOk_ok b (by omega) m (by omega)
    obtain ⟨l2, s2, e2, n2, l3, s3, e3, n3, e4, hl2, hl3⟩ := DrawSameAlarm_ok b (by omega) m (by omega)
    obtain ⟨l5, s5, e5, n5, x, e6, hx0⟩ := DrawOver_ok b (by omega) m (by omega)
    obtain ⟨l7, s7, e7, n7, e8, hl7, hs7, ws7, we7, hn7⟩ := DrawAlarmText_ok b (by omega) m (by omega)
    have hs' : SizedL 1048576 l := fun y hy => ⟨by have := (hs y hy).1; omega, by have := (hs y hy).2; omega⟩
    have hs7' : SizedL 1048576 l7 := fun y hy => ⟨by have := (hs7 y hy).1; omega, by have := (hs7 y hy).2; omega⟩
    have o1 : ∀ z, impl_Over.f l5 s5 e5 n5 z = some (decide (e5 ≤ z)) := fun z => rfl
    have o2 : ∀ z, spec_Over.f l5 s5 e5 n5 z = some (decide (e5 ≤ z)) := fun z => rfl
    have a1 := impl_AlarmOk_eq l s e n (by omega) 1048576 (by omega) hs' (by omega) m (by omega)
    have a2 := spec_AlarmOk_eq l s e n (by omega) 1048576 (by omega) hs' (by omega) m (by omega)
    have a3 := impl_AlarmOk_eq l7 s7 e7 n7 (by omega) 1048576 (by omega) hs7' (by omega) m (by omega)
    have b1 := impl_SameAlarm_eq l2 s2 e2 n2 l3 s3 e3 n3 (by omega) m (by omega)
    have b2 := spec_SameAlarm_eq l2 s2 e2 n2 l3 s3 e3 n3 (by omega) m (by omega)
    have b3 := impl_SameAlarm_eq l s e n l s e n (by omega) m (by omega)
    have t1 := impl_AlarmText_eq l7 s7 e7 n7 (by omega) hs7' (by omega) ws7 we7 m (by omega)
    have t2 := spec_AlarmText_eq l7 s7 e7 n7 (by omega) hs7' (by omega) ws7 we7 m (by omega)
    rw [sameAlarm_self] at b3
    rw [e1, e4, e6, e8]
    simp only [Option.bind_some, a1, a2, b1, b2, b3, o1, o2, t1, t2, a3, beq_self_eq_true, if_true, alarmText_some]
    by_cases ho : e5 ≤ x
    · rw [decide_eq_true ho, if_pos rfl]
      by_cases hx : x > 1099511627776
      · rw [if_pos hx]
      · rw [if_neg hx, decide_eq_true (over_step e5 x hx0 ho hx), if_pos rfl]
    · rw [decide_eq_false ho, if_neg (by decide)]

end Go.Proofs.YtgindocfjoalhabDoor.Pure
