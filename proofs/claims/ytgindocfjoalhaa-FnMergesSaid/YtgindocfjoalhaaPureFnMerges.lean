/- Of drawn alarms: what is merged is as the reference has it, is of the newer one but for an earlier start where they touch; merged again, and with itself, it is the same: for every draw; no conditions. -/
import Derived.Test.YtgindocfjoalhaaPFnMergesx8
import Derived.Test.YtgindocfjoalhaaM0
import Derived.Test.YtgindocfjoalhaaM1
import Derived.Test.YtgindocfjoalhaaM2
import Derived.Test.YtgindocfjoalhaaM3
import Derived.Test.YtgindocfjoalhaaM4
import Derived.Test.YtgindocfjoalhaaM5
set_option linter.unusedVariables false
set_option linter.unusedSimpArgs false
namespace Go.Proofs.Ytgindocfjoalhaa.Pure
open Go.RowKit Go.Proofs.Ytgindocfjoalhaa.PFnMerges Go.Proofs.YtgindocfjoalhaaW.PrintWords Go.Proofs.YtgindocfjoalhaaW.PrintLast Go.Proofs.Ytgindocfjoalhaa.M0 Go.Proofs.Ytgindocfjoalhaa.M1 Go.Proofs.Ytgindocfjoalhaa.M2 Go.Proofs.Ytgindocfjoalhaa.M3 Go.Proofs.Ytgindocfjoalhaa.M4 Go.Proofs.Ytgindocfjoalhaa.M5

/-! ### Cur -/
theorem l1Byte_ok (b : List Int) (i h : Int) (hc : CurOk b i) : ∃ x i' h', spec_l1Byte.f b i h = some (x, i', h') ∧ 0 ≤ x ∧ x ≤ 255 ∧ CurOk b i' := by
  obtain ⟨h0, h1, h2⟩ := hc
  unfold spec_l1Byte.f
  by_cases hi : i < (b.length : Int)
  · rw [if_pos hi, if_pos h0]
    exact ⟨_, _, _, rfl, (and255 _).1, (and255 _).2, by rw [w64 (by omega) (by omega)]; exact ⟨by omega, by omega, h2⟩⟩
  · rw [if_neg hi]
    exact ⟨_, _, _, rfl, (and255 _).1, (and255 _).2, h0, h1, h2⟩
theorem l1Below_ok (b : List Int) (i h n : Int) (hc : CurOk b i) : ∃ x i' h', spec_l1Below.f b i h n = some (x, i', h') ∧ 0 ≤ x ∧ (0 < n → x < n) ∧ CurOk b i' := by
  unfold spec_l1Below.f
  by_cases hn : n ≤ 0
  · rw [if_pos hn]
    exact ⟨_, _, _, rfl, by omega, by omega, hc⟩
  · rw [if_neg hn]
    obtain ⟨x, i1, g1, e1, hx0, hx1, c1⟩ := l1Byte_ok b i h hc
    by_cases hb : n ≤ 256
    · rw [if_pos hb, e1]
      simp only [Option.bind_some]
      rw [if_neg (by omega)]
      have := tmod_range hx0 (show 0 < n by omega)
      exact ⟨_, _, _, rfl, this.1, fun _ => this.2, c1⟩
    · obtain ⟨y, i2, g2, e2, hy0, hy1, c2⟩ := l1Byte_ok b i1 g1 c1
      obtain ⟨z, i3, g3, e3, hz0, hz1, c3⟩ := l1Byte_ok b i2 g2 c2
      rw [if_neg hb, e1]
      simp only [Option.bind_some, e2, e3]
      rw [if_neg (by omega), w64 (x := x * 65536) (by omega) (by omega), w64 (x := y * 256) (by omega) (by omega), w64 (x := x * 65536 + y * 256) (by omega) (by omega), w64 (by omega) (by omega)]
      have := tmod_range (show 0 ≤ x * 65536 + y * 256 + z by omega) (show 0 < n by omega)
      exact ⟨_, _, _, rfl, this.1, fun _ => this.2, c3⟩

/-! ### CurOnce -/
theorem l1Once_ok (b : List Int) (i h n : Int) (hc : CurOk b i) : ∃ t i' h', spec_l1Once.f b i h n = some (t, i', h') ∧ CurOk b i' := by
  obtain ⟨x, i1, h1, e, _, _, c⟩ := l1Below_ok b i h n hc
  unfold spec_l1Once.f
  rw [e]
  exact ⟨_, _, _, rfl, c⟩

/-! ### CurStr -/
theorem l1Str_ok (b : List Int) (i h : Int) (l : List ByteArray) (hl : 0 < l.length) (hc : CurOk b i) : ∃ s i' h', spec_l1Str.f b i h l = some (s, i', h') ∧ s ∈ l ∧ CurOk b i' := by
  obtain ⟨x, i1, h1, e, h0, hn, c⟩ := l1Below_ok b i h l.length hc
  unfold spec_l1Str.f
  rw [e]
  simp only [Option.bind_some]
  rw [if_pos h0, if_pos (hn (by omega))]
  exact ⟨_, _, _, rfl, rdOf_mem _ _ _ h0 (hn (by omega)), c⟩
theorem all13 (l : List ByteArray) (h : l.all (fun s => decide (s.size ≤ 13)) = true) : ∀ s ∈ l, s.size ≤ 13 := fun s hs => of_decide_eq_true (List.all_eq_true.1 h s hs)
theorem l1Str_sz (b : List Int) (i h : Int) (l : List ByteArray) (hl : 0 < l.length) (h13 : l.all (fun s => decide (s.size ≤ 13)) = true) (hc : CurOk b i) : ∃ s i' h', spec_l1Str.f b i h l = some (s, i', h') ∧ s.size ≤ 13 ∧ CurOk b i' := by
  obtain ⟨s, i', h', e, hm, c⟩ := l1Str_ok b i h l hl hc
  exact ⟨s, i', h', e, all13 l h13 s hm, c⟩

/-! ### NameOk -/
def nameB (s : ByteArray) (i : Int) : Bool := !(decide (bt s i < 97) || decide (bt s i > 122))
def inB (x a b : Int) : Bool := decide (a ≤ x) && decide (x ≤ b)
def nameOk (s : ByteArray) : Bool := allFrom (nameB s) s.size 0 && inB s.size 1 8
theorem impl_in_eq (x a b : Int) : impl_in.f x a b = some (inB x a b) := by
  unfold impl_in.f inB
  by_cases h : x ≥ a
  · rw [if_pos h, decide_eq_true (show a ≤ x from h)]; simp
  · rw [if_neg h, decide_eq_false (show ¬ a ≤ x from h)]; simp
theorem name_round (s : ByteArray) (i : Int) (x : Option Bool) :
    (if (bt s i) < 97 then (some false) else (if (bt s i) > 122 then (some false) else x)) = if nameB s i = true then x else some false := by
  by_cases h1 : bt s i < 97
  · simp [nameB, h1]
  by_cases h2 : bt s i > 122
  · simp [nameB, h2]
  rw [if_neg h1, if_neg h2, if_pos (by simp [nameB, h1, h2])]
theorem impl_NameOk_eq (s : ByteArray) (hn : s.size ≤ 140737488351232) (k : Nat) (hk : s.size < k) : impl_NameOk.f k s = some (nameOk s) := by
  unfold impl_NameOk.f nameOk
  rw [impl_in_eq]
  simp only [Option.bind_some]
  by_cases h12 : inB s.size 1 8 = true
  · rw [if_pos h12, h12]
    rw [all_loop hn 0 (nameB s) (fun k i => impl_NameOk.l0 k s i) (some true) ?_ ?_ s.size k 0 (by omega) (by omega) (by omega) (by omega)]
    · by_cases h : allFrom (nameB s) s.size 0 = true
      · simp [h]
      · simp [h]
    · intro k i _ h0 h1
      simp only [impl_NameOk.l0]
      rw [if_pos h1, if_pos h0, name_round]
    · intro k _
      simp only [impl_NameOk.l0]
      rw [if_neg (by omega)]
  · rw [if_neg h12]; simp [h12]

/-! ### PlainOk -/
def plainB (s : ByteArray) (i : Int) : Bool := !(decide (bt s i < 32) || decide (bt s i > 126) || decide (bt s i = 34) || decide (bt s i = 92))
def plainOk (s : ByteArray) : Bool := allFrom (plainB s) s.size 0 && decide ((s.size : Int) ≤ 12)
theorem plain_round (s : ByteArray) (i : Int) (x : Option Bool) :
    (if (bt s i) < 32 then (some false) else (if (bt s i) > 126 then (some false) else (if (bt s i) = 34 then (some false) else (if (bt s i) = 92 then (some false) else x)))) = if plainB s i = true then x else some false := by
  by_cases h1 : bt s i < 32
  · simp [plainB, h1]
  by_cases h2 : bt s i > 126
  · simp [plainB, h2]
  by_cases h3 : bt s i = 34
  · simp [plainB, h3]
  by_cases h4 : bt s i = 92
  · simp [plainB, h4]
  rw [if_neg h1, if_neg h2, if_neg h3, if_neg h4, if_pos (by simp [plainB, h1, h2, h3, h4])]
theorem impl_PlainOk_eq (s : ByteArray) (hn : s.size ≤ 140737488351232) (k : Nat) (hk : s.size < k) : impl_PlainOk.f k s = some (plainOk s) := by
  unfold impl_PlainOk.f plainOk
  by_cases h12 : (s.size : Int) > 12
  · rw [if_pos h12, decide_eq_false (by omega)]; simp
  · rw [if_neg h12, decide_eq_true (by omega)]
    rw [all_loop hn 0 (plainB s) (fun k i => impl_PlainOk.l0 k s i) (some true) ?_ ?_ s.size k 0 (by omega) (by omega) (by omega) (by omega)]
    · by_cases h : allFrom (plainB s) s.size 0 = true
      · simp [h]
      · simp [h]
    · intro k i _ h0 h1
      simp only [impl_PlainOk.l0]
      rw [if_pos h1, if_pos h0, plain_round]
    · intro k _
      simp only [impl_PlainOk.l0]
      rw [if_neg (by omega)]

/-! ### LabelOk -/
def labelOk (a b : ByteArray) : Bool := nameOk a && plainOk b
theorem impl_LabelOk_eq (a b : ByteArray) (ha : a.size ≤ 140737488351232) (hb : b.size ≤ 140737488351232) (k : Nat) (hk : a.size < k) (hk' : b.size < k) : impl_LabelOk.f k a b = some (labelOk a b) := by
  unfold impl_LabelOk.f labelOk
  rw [impl_NameOk_eq a ha k hk, impl_PlainOk_eq b hb k hk']
  cases nameOk a <;> simp

/-! ### SetOk -/
/-- Each label's sizes. -/
def SizedL (M : Nat) (l : List S89) : Prop := ∀ x ∈ l, x.f0.size ≤ M ∧ x.f1.size ≤ M
theorem rd_mem (l : List S89) (i : Int) (h0 : 0 ≤ i) (h1 : i < (l.length : Int)) : rd_T89 l i ∈ l := by
  unfold rd_T89
  rw [List.getD_eq_getElem?_getD, List.getElem?_eq_getElem (by omega)]
  exact List.getElem_mem (by omega)
def setB (l : List S89) (i : Int) : Bool := labelOk (rd_T89 l i).f0 (rd_T89 l i).f1 && (decide (i = 0) || Op.bytesLess (rd_T89 l (i - 1)).f0.toList (rd_T89 l i).f0.toList)
def setOk (l : List S89) : Bool := allFrom (setB l) l.length 0 && decide (l.length ≤ 4)
theorem impl_SetOk_eq (l : List S89) (hl : l.length ≤ 1048576) (M : Nat) (hM : M ≤ 1048576) (hs : SizedL M l) (k : Nat) (hk : l.length + M + 1 < k) : impl_SetOk.f k l = some (setOk l) := by
  unfold impl_SetOk.f setOk
  have key := all_loop (n := l.length) (by omega) (M + 1) (fun i => decide (i < 4) && setB l i) (fun k i => impl_SetOk.l0 k l l l.length i) (some true) ?_ ?_ l.length k 0 (by omega) (by omega) (by omega) (by omega)
  · rw [key, bool_of_if]
    congr 1
    by_cases h4 : l.length ≤ 4
    · rw [decide_eq_true h4, Bool.and_true]
      exact allFrom_congr _ _ (fun j h0 h1 => by rw [decide_eq_true (by omega)]; rfl)
    · rw [decide_eq_false h4, Bool.and_false, Bool.eq_false_iff]
      intro h
      have := (allFrom_iff _ _).mp h 4 (by omega) (by omega)
      simp at this
  · intro k i hk h0 h1
    have hm := hs _ (rd_mem l i h0 h1)
    simp only [impl_SetOk.l0]
    rw [if_pos h1, if_pos h0, if_pos h1]
    by_cases h4 : i ≥ 4
    · rw [if_pos h4, decide_eq_false (by omega)]; simp
    · rw [if_neg h4, decide_eq_true (show i < 4 by omega), impl_LabelOk_eq _ _ (by omega) (by omega) _ (by omega) (by omega)]
      simp only [Option.bind_some, Bool.true_and]
      by_cases hL : labelOk (rd_T89 l i).f0 (rd_T89 l i).f1 = true
      · rw [if_pos hL]
        by_cases hz : i = 0
        · have e : setB l i = true := by unfold setB; rw [hL, decide_eq_true hz]; rfl
          rw [if_neg (by omega), if_pos e]
        · have e : setB l i = Op.bytesLess (rd_T89 l (i - 1)).f0.toList (rd_T89 l i).f0.toList := by simp [setB, hL, hz]
          rw [if_pos (by omega), w64 (x := i - 1) (by omega) (by omega), if_pos (by omega), if_pos (by omega), e]
      · have e : setB l i = false := by simp [setB, hL]
        rw [if_neg hL, if_neg (by simp [e])]
  · intro k _
    simp only [impl_SetOk.l0]
    rw [if_neg (by omega)]

/-! ### L2 -/
theorem sized_append (M : Nat) {a b : List S89} (ha : SizedL M a) (hb : SizedL M b) : SizedL M (a ++ b) := by
  intro x hx
  rcases List.mem_append.1 hx with h | h
  · exact ha x h
  · exact hb x h
theorem sized_one (M : Nat) {x y : ByteArray} (hx : x.size ≤ M) (hy : y.size ≤ M) : SizedL M [(⟨x, y⟩ : S89)] := by
  intro z hz
  rw [List.mem_singleton.1 hz]
  exact ⟨hx, hy⟩
theorem sized_set (M : Nat) {a : List S89} (ha : SizedL M a) (n : Nat) {x y : ByteArray} (hx : x.size ≤ M) (hy : y.size ≤ M) : SizedL M (a.set n (⟨x, y⟩ : S89)) := by
  intro z hz
  rcases List.mem_or_eq_of_mem_set hz with h | h
  · exact ha z h
  · rw [h]; exact ⟨hx, hy⟩
theorem l2Draw_l (b : List Int) (names : List ByteArray) (hn : names.length ≤ 4) (hs : ∀ s ∈ names, s.size ≤ 13) (d : Nat) : ∀ (k : Nat) (l : List S89) (j i h : Int), 0 ≤ j → j + d = (names.length : Int) → 1 ≤ l.length → l.length ≤ j + 1 → SizedL 13 l → CurOk b i → d < k →
    ∃ r i' h', spec_l2Draw.l0 k l names names.length j b i h = some (r, i', h') ∧ 1 ≤ r.length ∧ r.length ≤ names.length + 1 ∧ SizedL 13 r ∧ CurOk b i' := by
  induction d with
  | zero =>
    intro k l j i h h0 hd hl hl' hsz hc hk
    obtain ⟨k, rfl⟩ : ∃ m, k = m + 1 := ⟨k - 1, by omega⟩
    simp only [spec_l2Draw.l0]
    rw [if_neg (by omega)]
    exact ⟨_, _, _, rfl, hl, by omega, hsz, hc⟩
  | succ d ih =>
    intro k l j i h h0 hd hl hl' hsz hc hk
    obtain ⟨k, rfl⟩ : ∃ m, k = m + 1 := ⟨k - 1, by omega⟩
    simp only [spec_l2Draw.l0]
    rw [if_pos (by omega), if_pos h0, if_pos (by omega)]
    obtain ⟨t, i1, h1, e1, c1⟩ := l1Once_ok b i h 4 hc
    rw [e1]
    simp only [Option.bind_some]
    by_cases ht : t = true
    · rw [if_pos ht]
      obtain ⟨s, i2, h2, e2, hm, c2⟩ := l1Str_ok b i1 h1 (([(⟨#[49]⟩ : ByteArray), (⟨#[50]⟩ : ByteArray)] : List ByteArray)) (by decide) c1
      rw [e2]
      simp only [Option.bind_some]
      rw [if_pos (by omega), w64 (x := j + 1) (by omega) (by omega)]
      have hss : s.size ≤ 13 := by
        simp only [List.mem_cons, List.not_mem_nil, or_false] at hm
        rcases hm with rfl | rfl <;> decide
      exact ih k _ _ _ _ (by omega) (by omega) (by simp) (by simp; omega) (sized_append 13 hsz (sized_one 13 (hs _ (rdOf_mem _ _ _ h0 (by omega))) hss)) c2 (by omega)
    · rw [if_neg ht, w64 (x := j + 1) (by omega) (by omega)]
      exact ih k _ _ _ _ (by omega) (by omega) hl (by omega) hsz c1 (by omega)
theorem l2Draw_ok (b : List Int) (i h : Int) (k : Nat) (hk : 5 < k) (hc : CurOk b i) : ∃ r i' h', spec_l2Draw.f k b i h = some (r, i', h') ∧ 1 ≤ r.length ∧ r.length ≤ 4 ∧ SizedL 13 r ∧ CurOk b i' := by
  unfold spec_l2Draw.f
  obtain ⟨s, i2, h2, e2, hm, c2⟩ := l1Str_ok b i h (([(⟨#[97]⟩ : ByteArray), (⟨#[98]⟩ : ByteArray), (⟨#[99]⟩ : ByteArray)] : List ByteArray)) (by decide) hc
  have hss : s.size ≤ 13 := by
    simp only [List.mem_cons, List.not_mem_nil, or_false] at hm
    rcases hm with rfl | rfl | rfl <;> decide
  rw [e2]
  simp only [Option.bind_some]
  exact l2Draw_l b _ (by decide) (by
    intro s hs
    simp only [List.mem_cons, List.not_mem_nil, or_false] at hs
    rcases hs with rfl | rfl | rfl <;> decide) 3 k _ 0 _ _ (by omega) (by decide) (by simp) (by simp) (sized_one 13 (by decide) hss) c2 (by omega)

/-! ### L1Names -/
theorem l1Names_ok (b : List Int) (i h : Int) (hc : CurOk b i) : ∃ s i' h', spec_l1Names.f b i h = some (s, i', h') ∧ s.size ≤ 13 ∧ CurOk b i' := by
  unfold spec_l1Names.f
  obtain ⟨s, i2, h2, e2, hm, c2⟩ := l1Str_sz b i h (([(⟨#[97, 112, 112]⟩ : ByteArray), (⟨#[104, 111, 115, 116]⟩ : ByteArray), (⟨#[115, 101, 118]⟩ : ByteArray), (⟨#[122, 111, 110, 101]⟩ : ByteArray)] : List ByteArray)) (by decide) (by decide) hc
  rw [e2]
  exact ⟨_, _, _, rfl, hm, c2⟩

/-! ### L1AnyName -/
theorem l1AnyName_ok (b : List Int) (i h : Int) (hc : CurOk b i) : ∃ s i' h', spec_l1AnyName.f b i h = some (s, i', h') ∧ s.size ≤ 13 ∧ CurOk b i' := by
  unfold spec_l1AnyName.f
  obtain ⟨t, i1, h1, e1, c1⟩ := l1Once_ok b i h 2 hc
  rw [e1]
  simp only [Option.bind_some]
  by_cases ht : t = true
  · rw [if_pos ht]
    obtain ⟨s, i2, h2, e2, hm, c2⟩ := l1Names_ok b i1 h1 c1
    rw [e2]
    exact ⟨_, _, _, rfl, hm, c2⟩
  · rw [if_neg ht]
    obtain ⟨s, i2, h2, e2, hm, c2⟩ := l1Str_sz b i1 h1 (([(⟨#[]⟩ : ByteArray), (⟨#[65]⟩ : ByteArray), (⟨#[110, 105, 110, 101, 99, 104, 97, 114, 115]⟩ : ByteArray), (⟨#[101, 105, 103, 104, 116, 97, 98, 99]⟩ : ByteArray), (⟨#[97, 32, 98]⟩ : ByteArray), (⟨#[97, 49]⟩ : ByteArray)] : List ByteArray)) (by decide) (by decide) c1
    rw [e2]
    exact ⟨_, _, _, rfl, hm, c2⟩

/-! ### L1Plain -/
theorem l1Plain_ok (b : List Int) (i h : Int) (hc : CurOk b i) : ∃ s i' h', spec_l1Plain.f b i h = some (s, i', h') ∧ s.size ≤ 13 ∧ CurOk b i' := by
  unfold spec_l1Plain.f
  obtain ⟨s, i2, h2, e2, hm, c2⟩ := l1Str_sz b i h (([(⟨#[97]⟩ : ByteArray), (⟨#[98]⟩ : ByteArray), (⟨#[120, 32, 121]⟩ : ByteArray), (⟨#[]⟩ : ByteArray), (⟨#[99, 114, 105, 116]⟩ : ByteArray), (⟨#[125, 45]⟩ : ByteArray)] : List ByteArray)) (by decide) (by decide) hc
  rw [e2]
  exact ⟨_, _, _, rfl, hm, c2⟩

/-! ### L1AnyPlain -/
theorem l1AnyPlain_ok (b : List Int) (i h : Int) (hc : CurOk b i) : ∃ s i' h', spec_l1AnyPlain.f b i h = some (s, i', h') ∧ s.size ≤ 13 ∧ CurOk b i' := by
  unfold spec_l1AnyPlain.f
  obtain ⟨t, i1, h1, e1, c1⟩ := l1Once_ok b i h 2 hc
  rw [e1]
  simp only [Option.bind_some]
  by_cases ht : t = true
  · rw [if_pos ht]
    obtain ⟨s, i2, h2, e2, hm, c2⟩ := l1Plain_ok b i1 h1 c1
    rw [e2]
    exact ⟨_, _, _, rfl, hm, c2⟩
  · rw [if_neg ht]
    obtain ⟨s, i2, h2, e2, hm, c2⟩ := l1Str_sz b i1 h1 (([(⟨#[34]⟩ : ByteArray), (⟨#[92]⟩ : ByteArray), (⟨#[127]⟩ : ByteArray), (⟨#[31]⟩ : ByteArray), (⟨#[116, 119, 101, 108, 118, 101, 32, 98, 121, 116, 101, 115]⟩ : ByteArray), (⟨#[116, 104, 105, 114, 116, 101, 101, 110, 98, 121, 116, 101, 115]⟩ : ByteArray), (⟨#[126]⟩ : ByteArray), (⟨#[125]⟩ : ByteArray), (⟨#[44, 32, 98, 61]⟩ : ByteArray), (⟨#[125, 32, 49, 45, 50]⟩ : ByteArray)] : List ByteArray)) (by decide) (by decide) c1
    rw [e2]
    exact ⟨_, _, _, rfl, hm, c2⟩

/-! ### L2Any -/
theorem l2Any_ok (b : List Int) (i h : Int) (k : Nat) (hk : 5 < k) (hc : CurOk b i) : ∃ r i' h', spec_l2Any.f k b i h = some (r, i', h') ∧ r.length ≤ 8 ∧ SizedL 13 r ∧ CurOk b i' := by
  unfold spec_l2Any.f
  obtain ⟨l, i1, h1, e1, hl1, hl4, hs, c1⟩ := l2Draw_ok b i h k hk hc
  obtain ⟨x, i2, h2, e2, hx0, hx1, c2⟩ := l1Below_ok b i1 h1 10 c1
  rw [e1]
  simp only [Option.bind_some]
  rw [e2]
  simp only [Option.bind_some]
  by_cases x0 : x = 0
  · rw [if_pos x0]
    obtain ⟨s, i3, h3, e3, hs3, c3⟩ := l1AnyName_ok b i2 h2 c2
    obtain ⟨t, i4, h4, e4, hs4, c4⟩ := l1AnyPlain_ok b i3 h3 c3
    rw [e3]
    simp only [Option.bind_some]
    rw [e4]
    simp only [Option.bind_some]
    rw [if_pos (by omega)]
    exact ⟨_, _, _, rfl, by simp; omega, sized_append 13 hs (sized_one 13 hs3 hs4), c4⟩
  rw [if_neg x0]
  by_cases x1 : x = 1
  · rw [if_pos x1, if_pos (by simp; omega)]
    exact ⟨_, _, _, rfl, by simp; omega, sized_append 13 (sized_one 13 (by decide) (by decide)) hs, c2⟩
  rw [if_neg x1]
  by_cases x2 : x = 2
  · rw [if_pos x2, if_pos (by omega), if_pos (by omega)]
    have hm := hs _ (rd_mem l 0 (by omega) (by omega))
    exact ⟨_, _, _, rfl, by simp; omega, sized_append 13 hs (sized_one 13 hm.1 hm.2), c2⟩
  rw [if_neg x2]
  by_cases x3 : x = 3
  · rw [if_pos x3, if_pos (by simp; omega)]
    refine ⟨_, _, _, rfl, by simp; omega, sized_append 13 hs ?_, c2⟩
    intro z hz
    simp only [List.mem_cons, List.not_mem_nil, or_false] at hz
    rcases hz with rfl | rfl | rfl | rfl <;> exact ⟨by decide, by decide⟩
  rw [if_neg x3]
  by_cases x4 : x = 4
  · rw [if_pos x4]
    obtain ⟨t, i4, h4, e4, hs4, c4⟩ := l1AnyPlain_ok b i2 h2 c2
    have hm := hs _ (rd_mem l 0 (by omega) (by omega))
    rw [e4]
    simp only [Option.bind_some]
    rw [if_pos (by omega)]
    exact ⟨_, _, _, rfl, by simp; omega, sized_set 13 hs _ hm.1 hs4, c4⟩
  rw [if_neg x4]
  by_cases x5 : x = 5
  · rw [if_pos x5]
    exact ⟨_, _, _, rfl, by simp, fun z hz => by simp at hz, c2⟩
  rw [if_neg x5]
  exact ⟨_, _, _, rfl, by omega, hs, c2⟩

/-! ### CurInt -/
theorem l1Int_ok (b : List Int) (i h : Int) (l : List Int) (hl : 0 < l.length) (hc : CurOk b i) : ∃ s i' h', spec_l1Int.f b i h l = some (s, i', h') ∧ s ∈ l ∧ CurOk b i' := by
  obtain ⟨x, i1, h1, e, h0, hn, c⟩ := l1Below_ok b i h l.length hc
  unfold spec_l1Int.f
  rw [e]
  simp only [Option.bind_some]
  rw [if_pos h0, if_pos (hn (by omega))]
  exact ⟨_, _, _, rfl, rd_mem_int _ _ h0 (hn (by omega)), c⟩

/-! ### L1Raw -/
theorem l1Odd_ok (b : List Int) (i h : Int) (hc : CurOk b i) : ∃ x i' h', spec_l1Odd.f b i h = some (x, i', h') ∧ (-9223372036854775808 ≤ x ∧ x ≤ 9223372036854775807) ∧ CurOk b i' := by
  unfold spec_l1Odd.f
  obtain ⟨s, i2, h2, e2, hm, c2⟩ := l1Int_ok b i h (([(-1), 0, 1, 2, 255, 256, 65535, 2147483647, 2147483648, 4294967295, 4294967296, (-2147483648), 9223372036854775807, (-9223372036854775808)] : List Int)) (by decide) hc
  rw [e2]
  refine ⟨_, _, _, rfl, ?_, c2⟩
  simp only [List.mem_cons, List.not_mem_nil, or_false] at hm
  omega
theorem l1Raw_ok (b : List Int) (i h : Int) (hc : CurOk b i) : ∃ x i' h', spec_l1Raw.f b i h = some (x, i', h') ∧ (-9223372036854775808 ≤ x ∧ x ≤ 9223372036854775807) ∧ CurOk b i' := by
  unfold spec_l1Raw.f
  obtain ⟨t, i1, h1, e1, c1⟩ := l1Once_ok b i h 2 hc
  rw [e1]
  simp only [Option.bind_some]
  by_cases ht : t = true
  · rw [if_pos ht]
    obtain ⟨s, i2, h2, e2, hm, c2⟩ := l1Odd_ok b i1 h1 c1
    rw [e2]
    exact ⟨_, _, _, rfl, hm, c2⟩
  · rw [if_neg ht]
    obtain ⟨s, i2, h2, e2, hm, c2⟩ := l1Int_ok b i1 h1 (([(-1), 0, 1, 3, 99999, 100000] : List Int)) (by decide) c1
    rw [e2]
    refine ⟨_, _, _, rfl, ?_, c2⟩
    simp only [List.mem_cons, List.not_mem_nil, or_false] at hm
    omega

/-! ### CurNew -/
theorem l1New_l (b : List Int) (hb : b.length ≤ 140737488351232) (d : Nat) : ∀ (k : Nat) (x i : Int), 0 ≤ i → (b.length : Int) - i = d → d < k → ∃ h, spec_l1New.l0 k b x i = some (b, 0, h) := by
  induction d with
  | zero =>
    intro k x i h0 hd hk
    obtain ⟨k, rfl⟩ : ∃ m, k = m + 1 := ⟨k - 1, by omega⟩
    simp only [spec_l1New.l0]
    rw [if_neg (by omega)]
    exact ⟨_, rfl⟩
  | succ d ih =>
    intro k x i h0 hd hk
    obtain ⟨k, rfl⟩ : ∃ m, k = m + 1 := ⟨k - 1, by omega⟩
    simp only [spec_l1New.l0]
    rw [if_pos (by omega)]
    by_cases h4 : i < 4000
    · rw [if_pos h4, if_pos h0, w64 (x := i + 1) (by omega) (by omega)]
      exact ih k _ _ (by omega) (by omega) (by omega)
    · rw [if_neg h4]
      exact ⟨_, rfl⟩
theorem l1New_ok (b : List Int) (hb : b.length ≤ 140737488351232) (k : Nat) (hk : b.length < k) : ∃ h, spec_l1New.f k b = some (b, 0, h) ∧ CurOk b 0 := by
  obtain ⟨h, e⟩ := l1New_l b hb b.length k (wrap64 (140873 + (b.length : Int))) 0 (by omega) (by omega) hk
  exact ⟨h, e, by omega, by omega, hb⟩

/-! ### L4 -/
def wf64 (x : Int) : Prop := (Lit.int .i64 x).wf = true
theorem wf64_of (x : Int) (h0 : -9223372036854775808 ≤ x) (h1 : x ≤ 9223372036854775807) : wf64 x := by
  unfold wf64
  simp [Lit.wf, IntKind.min, IntKind.max, IntKind.signed, IntKind.bits]; omega
theorem l4Draw_ok (b : List Int) (i h : Int) (k : Nat) (hk : 5 < k) (hc : CurOk b i) : ∃ l s e n i' h', spec_l4Draw.f k b i h = some (l, s, e, n, i', h') ∧ 1 ≤ l.length ∧ l.length ≤ 8 ∧ SizedL 13 l ∧ wf64 s ∧ wf64 e ∧ n.size ≤ 13 ∧ CurOk b i' := by
  unfold spec_l4Draw.f
  obtain ⟨l, i1, h1, e1, hl1, hl4, hs, c1⟩ := l2Draw_ok b i h k hk hc
  rw [e1]
  simp only [Option.bind_some]
  obtain ⟨x, i2, h2, e2, hx0, hx1, c2⟩ := l1Below_ok b i1 h1 8 c1
  rw [e2]
  simp only [Option.bind_some]
  obtain ⟨n, i3, h3, e3, hn, c3⟩ := l1Plain_ok b i2 h2 c2
  rw [e3]
  simp only [Option.bind_some]
  obtain ⟨y, i4, h4, e4, hy, c4⟩ := l1Int_ok b i3 h3 (([0, 2, 5, 20, 60] : List Int)) (by decide) c3
  rw [e4]
  have := hx1 (by omega)
  simp only [List.mem_cons, List.not_mem_nil, or_false] at hy
  refine ⟨_, _, _, _, _, _, rfl, hl1, by omega, hs, wf64_of _ (by omega) (by omega), ?_, hn, c4⟩
  rw [w64 (by omega) (by omega)]
  exact wf64_of _ (by omega) (by omega)
theorem l4Any_ok (b : List Int) (i h : Int) (k : Nat) (hk : 5 < k) (hc : CurOk b i) : ∃ l s e n i' h', spec_l4Any.f k b i h = some (l, s, e, n, i', h') ∧ l.length ≤ 8 ∧ SizedL 13 l ∧ wf64 s ∧ wf64 e ∧ n.size ≤ 13 ∧ CurOk b i' := by
  unfold spec_l4Any.f
  obtain ⟨l, s, e, n, i1, h1, e1, hl1, hl8, hs, ws, we, hn, c1⟩ := l4Draw_ok b i h k hk hc
  rw [e1]
  simp only [Option.bind_some]
  obtain ⟨x, i2, h2, e2, hx0, hx1, c2⟩ := l1Below_ok b i1 h1 12 c1
  rw [e2]
  simp only [Option.bind_some]
  by_cases x0 : x = 0
  · rw [if_pos x0]
    obtain ⟨l', i3, h3, e3, hl3, hs3, c3⟩ := l2Any_ok b i2 h2 k hk c2
    rw [e3]
    exact ⟨_, _, _, _, _, _, rfl, hl3, hs3, ws, we, hn, c3⟩
  rw [if_neg x0]
  by_cases x1 : x = 1
  · rw [if_pos x1]
    obtain ⟨y, i3, h3, e3, hy, c3⟩ := l1Int_ok b i2 h2 (([(-1), 99999, 100000] : List Int)) (by decide) c2
    rw [e3]
    simp only [List.mem_cons, List.not_mem_nil, or_false] at hy
    exact ⟨_, _, _, _, _, _, rfl, hl8, hs, wf64_of _ (by omega) (by omega), we, hn, c3⟩
  rw [if_neg x1]
  by_cases x2 : x = 2
  · rw [if_pos x2]
    obtain ⟨y, i3, h3, e3, hy, c3⟩ := l1Raw_ok b i2 h2 c2
    rw [e3]
    exact ⟨_, _, _, _, _, _, rfl, hl8, hs, ws, wf64_of _ hy.1 hy.2, hn, c3⟩
  rw [if_neg x2]
  by_cases x3 : x = 3
  · rw [if_pos x3]
    obtain ⟨y, i3, h3, e3, hy, c3⟩ := l1AnyPlain_ok b i2 h2 c2
    rw [e3]
    exact ⟨_, _, _, _, _, _, rfl, hl8, hs, ws, we, hy, c3⟩
  rw [if_neg x3]
  exact ⟨_, _, _, _, _, _, rfl, hl8, hs, ws, we, hn, c2⟩

/-! ### DrawMerges -/
theorem l4Pair_ok (b : List Int) (i h : Int) (k : Nat) (hk : 5 < k) (hc : CurOk b i) : ∃ l s e n l' s' e' n' i' h', spec_l4Pair.f k b i h = some (l, s, e, n, l', s', e', n', i', h') ∧ l.length ≤ 8 ∧ SizedL 13 l ∧ n.size ≤ 13 ∧ l'.length ≤ 8 ∧ SizedL 13 l' ∧ n'.size ≤ 13 ∧ CurOk b i' := by
  unfold spec_l4Pair.f
  obtain ⟨l, s, e, n, i1, h1, e1, hl, hs, ws, we, hn, c1⟩ := l4Any_ok b i h k hk hc
  rw [e1]
  simp only [Option.bind_some]
  obtain ⟨l', s', e', n', i2, h2, e2, hl', hs', ws', we', hn', c2⟩ := l4Any_ok b i1 h1 k hk c1
  rw [e2]
  simp only [Option.bind_some]
  obtain ⟨t, i3, h3, e3, c3⟩ := l1Once_ok b i2 h2 2 c2
  rw [e3]
  simp only [Option.bind_some]
  by_cases ht : t = true
  · rw [if_pos ht]
    simp only [List.length_nil, List.nil_append]
    rw [if_pos (by omega)]
    exact ⟨_, _, _, _, _, _, _, _, _, _, rfl, hl, hs, hn, hl, hs, hn', c3⟩
  · rw [if_neg ht]
    exact ⟨_, _, _, _, _, _, _, _, _, _, rfl, hl, hs, hn, hl', hs', hn', c3⟩
theorem DrawMerge_ok (b : List Int) (hb : b.length ≤ 140737488351232) (k : Nat) (hk : b.length + 8 < k) : ∃ l s e n l' s' e' n', spec_DrawMerge.f k b = some (l, s, e, n, l', s', e', n') ∧ l.length ≤ 8 ∧ SizedL 13 l ∧ n.size ≤ 13 ∧ l'.length ≤ 8 ∧ SizedL 13 l' ∧ n'.size ≤ 13 := by
  unfold spec_DrawMerge.f
  obtain ⟨h, e, c⟩ := l1New_ok b hb k (by omega)
  rw [e]
  simp only [Option.bind_some]
  obtain ⟨l, s, e, n, l', s', e', n', i1, h1, e1, hl, hs, hn, hl', hs', hn', c1⟩ := l4Pair_ok b 0 h k (by omega) c
  rw [e1]
  exact ⟨_, _, _, _, _, _, _, _, rfl, hl, hs, hn, hl', hs', hn'⟩
theorem DrawTouch_ok (b : List Int) (hb : b.length ≤ 140737488351232) (k : Nat) (hk : b.length + 8 < k) : ∃ l s e n l' s' e' n', spec_DrawTouch.f k b = some (l, s, e, n, l', s', e', n') := by
  unfold spec_DrawTouch.f
  obtain ⟨h, e, c⟩ := l1New_ok b hb k (by omega)
  rw [e]
  simp only [Option.bind_some]
  obtain ⟨l, s, e, n, l', s', e', n', i1, h1, e1, hl, hs, hn, hl', hs', hn', c1⟩ := l4Pair_ok b 0 h k (by omega) c
  rw [e1]
  exact ⟨_, _, _, _, _, _, _, _, rfl⟩

/-! ### CopyA -/
theorem impl_copySet_eq (l : List S89) (hl : l.length ≤ 1099511627776) : impl_copySet.f l = some l := by
  unfold impl_copySet.f
  rw [if_pos (by omega)]
theorem impl_copyAlarm_eq (l : List S89) (s e : Int) (n : ByteArray) (hl : l.length ≤ 1099511627776) : impl_copyAlarm.f l s e n = some (l, s, e, n) := by
  unfold impl_copyAlarm.f
  rw [impl_copySet_eq l hl]; rfl
theorem spec_l4Copy_eq (l : List S89) (s e : Int) (n : ByteArray) (hl : l.length ≤ 1099511627776) : spec_l4Copy.f l s e n = some (l, s, e, n) := by
  unfold spec_l4Copy.f
  simp only [Option.bind_some, List.length_nil, List.nil_append]
  rw [if_pos (by omega)]

/-! ### Touch -/
def touch (s e s' e' : Int) : Bool := decide (s ≤ e') && decide (s' ≤ e)
theorem spec_Touch_eq (l : List S89) (s e : Int) (n : ByteArray) (l' : List S89) (s' e' : Int) (n' : ByteArray) : spec_Touch.f l s e n l' s' e' n' = some (touch s e s' e') := by
  unfold spec_Touch.f touch
  by_cases h : s ≤ e' <;> simp [h]
theorem impl_Touch_eq (l : List S89) (s e : Int) (n : ByteArray) (l' : List S89) (s' e' : Int) (n' : ByteArray) : impl_Touch.f l s e n l' s' e' n' = some (touch s e s' e') := by
  unfold impl_Touch.f touch
  by_cases h : s ≤ e' <;> simp [h]

/-! ### Least -/
theorem spec_Least_eq (a b : Int) : spec_Least.f a b = some (mn a b) := by
  unfold spec_Least.f
  split <;> (congr 1; unfold mn; omega)

/-! ### Merge -/
def mergeStart (s e s' e' : Int) : Int := if touch s e s' e' = true then mn s s' else s'
theorem spec_Merge_eq (l : List S89) (s e : Int) (n : ByteArray) (l' : List S89) (s' e' : Int) (n' : ByteArray) (hl : l'.length ≤ 1099511627776) : spec_Merge.f l s e n l' s' e' n' = some (l', mergeStart s e s' e', e', n') := by
  unfold spec_Merge.f mergeStart
  rw [spec_l4Copy_eq l' s' e' n' hl, spec_Touch_eq]
  simp only [Option.bind_some, spec_Least_eq]
  split <;> rfl
theorem impl_Merge_eq (l : List S89) (s e : Int) (n : ByteArray) (l' : List S89) (s' e' : Int) (n' : ByteArray) (hl : l'.length ≤ 1099511627776) : impl_Merge.f l s e n l' s' e' n' = some (l', mergeStart s e s' e', e', n') := by
  unfold impl_Merge.f mergeStart
  rw [impl_copyAlarm_eq l' s' e' n' hl, impl_Touch_eq]
  simp only [Option.bind_some]
  split <;> rfl

/-! ### SameSet -/
def labEq (x y : S89) : Bool := (x.f0.toList == y.f0.toList) && (x.f1.toList == y.f1.toList)
def sameB (a b : List S89) (i : Int) : Bool := labEq (rd_T89 a i) (rd_T89 b i)
def sameSet (a b : List S89) : Bool := decide (a.length = b.length) && allFrom (sameB a b) a.length 0
theorem same_round (a b : List S89) (i : Int) (x : Option Bool) :
    (if (!((((rd_T89 a i).f0).toList) == (((rd_T89 b i).f0).toList)) || (!((((rd_T89 a i).f1).toList) == (((rd_T89 b i).f1).toList)))) = true then (some false) else x) = if sameB a b i = true then x else some false := by
  unfold sameB labEq
  cases ((rd_T89 a i).f0.toList == (rd_T89 b i).f0.toList) <;> cases ((rd_T89 a i).f1.toList == (rd_T89 b i).f1.toList) <;> simp
theorem impl_SameSet_eq (a b : List S89) (ha : a.length ≤ 140737488351232) (k : Nat) (hk : a.length < k) : impl_SameSet.f k a b = some (sameSet a b) := by
  unfold impl_SameSet.f sameSet
  by_cases h : a.length = b.length
  · rw [if_pos (by omega), decide_eq_true h, Bool.true_and]
    rw [all_loop (n := a.length) ha 0 (sameB a b) (fun k i => impl_SameSet.l0 k a b a.length i) (some true) ?_ ?_ a.length k 0 (by omega) (by omega) (by omega) (by omega), bool_of_if]
    · intro k i _ h0 h1
      simp only [impl_SameSet.l0]
      rw [if_pos h1, if_pos h0, if_pos h1, if_pos (by omega), same_round]
    · intro k _
      simp only [impl_SameSet.l0]
      rw [if_neg (by omega)]
  · rw [if_neg (by omega), decide_eq_false h]; rfl

/-! ### SameAlarm -/
def sameAlarm (l : List S89) (s e : Int) (n : ByteArray) (l' : List S89) (s' e' : Int) (n' : ByteArray) : Bool := sameSet l l' && (decide (s = s') && (decide (e = e') && (n.toList == n'.toList)))
theorem impl_SameAlarm_eq (l : List S89) (s e : Int) (n : ByteArray) (l' : List S89) (s' e' : Int) (n' : ByteArray) (hl : l.length ≤ 140737488351232) (k : Nat) (hk : l.length < k) : impl_SameAlarm.f k l s e n l' s' e' n' = some (sameAlarm l s e n l' s' e' n') := by
  unfold impl_SameAlarm.f sameAlarm
  rw [impl_SameSet_eq l l' hl k hk]
  cases sameSet l l' <;> by_cases h1 : s = s' <;> by_cases h2 : e = e' <;> simp [h1, h2]

/-! ### AlarmOk -/
def alarmOk (l : List S89) (s e : Int) (note : ByteArray) : Bool := decide ((l.length : Int) > 0) && (setOk l && (inB s 0 99999 && (inB e s 99999 && plainOk note)))
theorem impl_AlarmOk_eq (l : List S89) (s e : Int) (note : ByteArray) (hl : l.length ≤ 1048576) (M : Nat) (hM : M ≤ 1048576) (hs : SizedL M l) (hn : note.size ≤ 1048576) (k : Nat) (hk : 4194304 < k) : impl_AlarmOk.f k l s e note = some (alarmOk l s e note) := by
  unfold impl_AlarmOk.f alarmOk
  rw [impl_SetOk_eq l hl M hM hs k (by omega), impl_in_eq, impl_in_eq, impl_PlainOk_eq note (by omega) k (by omega)]
  cases setOk l <;> cases inB s 0 99999 <;> cases inB e s 99999 <;> by_cases h : 0 < l.length <;> simp [h]

theorem sameSet_self (l : List S89) : sameSet l l = true := by
  unfold sameSet
  simp [allFrom_iff, sameB, labEq]
theorem sameAlarm_self (l : List S89) (s e : Int) (n : ByteArray) : sameAlarm l s e n l s e n = true := by
  unfold sameAlarm
  rw [sameSet_self]; simp
theorem start_le (s e s' e' : Int) : mergeStart s e s' e' ≤ s' := by
  unfold mergeStart mn
  split <;> (try split) <;> omega
theorem start_or (s e s' e' : Int) (h : touch s e s' e' = false) : mergeStart s e s' e' = s' := by
  unfold mergeStart
  rw [if_neg (by rw [h]; decide)]
theorem start_again (s e s' e' : Int) : mergeStart s e (mergeStart s e s' e') e' = mergeStart s e s' e' := by
  by_cases h : touch s e s' e' = true
  · have h2 : mergeStart s e s' e' = mn s s' := by unfold mergeStart; rw [if_pos h]
    rw [h2]
    unfold mergeStart
    split <;> (unfold mn; split <;> (try split) <;> omega)
  · have h1 := start_or s e s' e' (Bool.eq_false_iff.mpr h)
    rw [h1, h1]
theorem start_self (s e : Int) : mergeStart s e s e = s := by
  unfold mergeStart mn
  split <;> (try split) <;> omega
theorem touch_comm (s e s' e' : Int) : touch s e s' e' = touch s' e' s e := by
  unfold touch
  rw [Bool.and_comm]
theorem alarm_merged (l : List S89) (s e : Int) (n : ByteArray) (l' : List S89) (s' e' : Int) (n' : ByteArray) (h : alarmOk l s e n = true) (h' : alarmOk l' s' e' n' = true) : alarmOk l' (mergeStart s e s' e') e' n' = true := by
  unfold alarmOk at h h' ⊢
  simp only [Bool.and_eq_true, inB, decide_eq_true_eq] at h h' ⊢
  have hle := start_le s e s' e'
  have hge : mn s s' ≤ mergeStart s e s' e' := by unfold mergeStart mn; split <;> (try split) <;> omega
  have hmn : s ≤ mn s s' ∨ s' ≤ mn s s' := by unfold mn; split <;> omega
  refine ⟨h'.1, h'.2.1, ?_, ?_, h'.2.2.2.2⟩
  · have := h.2.2.1; have := h'.2.2.1; omega
  · have := h.2.2.1; have := h'.2.2.1; have := h'.2.2.2.1; omega
theorem FnMerges : laws_FnMerges.Pure := by
  intro b hb _ _
  obtain ⟨m, hm⟩ : ∃ m : Nat, 16777216 < m := ⟨16777217, by omega⟩
  refine ⟨m, ?_⟩
  unfold laws_FnMerges.Facts laws_big.f
  by_cases hz : (b.length : Int) > 1048576
  · exact .inl (by rw [decide_eq_true hz])
  · have hz2 : b.length ≤ 1048576 := by omega
    obtain ⟨l, s, e, n, l', s', e', n', e1, hl, hs, hn, hl', hs', hn'⟩ := DrawMerge_ok b (by omega) m (by omega)
    obtain ⟨l3, s3, e3, n3, l4, s4, e4, n4, e2⟩ := DrawTouch_ok b (by omega) m (by omega)
    have up : ∀ {x : List S89}, SizedL 13 x → SizedL 1048576 x := fun h y hy => ⟨by have := (h y hy).1; omega, by have := (h y hy).2; omega⟩
    have a1 := impl_AlarmOk_eq l s e n (by omega) 1048576 (by omega) (up hs) (by omega) m (by omega)
    have a2 := impl_AlarmOk_eq l' s' e' n' (by omega) 1048576 (by omega) (up hs') (by omega) m (by omega)
    have a3 := impl_AlarmOk_eq l' (mergeStart s e s' e') e' n' (by omega) 1048576 (by omega) (up hs') (by omega) m (by omega)
    have sm : ∀ x, impl_SameAlarm.f m l' x e' n' l' x e' n' = some true := fun x => by rw [impl_SameAlarm_eq l' x e' n' l' x e' n' (by omega) m (by omega), sameAlarm_self]
    refine .inr ⟨l, s, e, n, l', s', e', n', mergeStart s e s' e', l3, s3, e3, n3, l4, s4, e4, n4, touch s3 e3 s4 e4, touch s e s' e', alarmOk l s e n, alarmOk l' s' e' n', ?_⟩
    refine ⟨by rw [decide_eq_false hz], e1, impl_Merge_eq _ _ _ _ _ _ _ _ (by omega), e2, spec_Merge_eq _ _ _ _ _ _ _ _ (by omega), sm _, impl_Touch_eq _ _ _ _ _ _ _ _, spec_Touch_eq _ _ _ _ _ _ _ _, by rw [impl_Touch_eq, touch_comm],
      by rw [impl_SameSet_eq l' l' (by omega) m (by omega), sameSet_self], impl_Touch_eq _ _ _ _ _ _ _ _, by rw [impl_Merge_eq _ _ _ _ _ _ _ _ (by omega), start_again], by rw [impl_Merge_eq _ _ _ _ _ _ _ _ (by omega), start_self], sm _, a1, a2,
      fun h h' => by rw [a3, alarm_merged l s e n l' s' e' n' h h'], bne_self_eq_false _, beq_self_eq_true _, beq_self_eq_true _, decide_eq_true (start_le _ _ _ _), fun h => by rw [start_or _ _ _ _ h]; exact beq_self_eq_true _⟩

end Go.Proofs.Ytgindocfjoalhaa.Pure
