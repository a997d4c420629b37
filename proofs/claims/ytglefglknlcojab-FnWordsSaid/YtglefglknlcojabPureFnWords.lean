/- Of drawn texts which are names, and plain, is as the reference has it; of two unlike texts one is ahead of the other: for every draw; no conditions. -/
import Derived.Test.YtglefglknlcojabPFnWordsx4
import Derived.Test.YtglefglknlcojabM0
import Derived.Test.YtglefglknlcojabM1
import Derived.Test.YtglefglknlcojabM2
import Derived.Test.YtglefglknlcojabM3
import Derived.Test.YtglefglknlcojabM4
import Derived.Test.YtglefglknlcojabM5
set_option linter.unusedVariables false
set_option linter.unusedSimpArgs false
namespace Go.Proofs.Ytglefglknlcojab.Pure
open Go.RowKit Go.Proofs.Ytglefglknlcojab.PFnWords Go.Proofs.YtglefglknlcojabW.PrintWords Go.Proofs.YtglefglknlcojabW.PrintLast Go.Proofs.Ytglefglknlcojab.M0 Go.Proofs.Ytglefglknlcojab.M1 Go.Proofs.Ytglefglknlcojab.M2 Go.Proofs.Ytglefglknlcojab.M3 Go.Proofs.Ytglefglknlcojab.M4 Go.Proofs.Ytglefglknlcojab.M5

/-! ### Cur -/
theorem l1Byte_ok (b : List Int) (i h : Int) (hc : CurOk b i) : ∃ x i' h', spec_l1Byte.f b i h = some (x, i', h') ∧ 0 ≤ x ∧ x ≤ 255 ∧ CurOk b i' := by
  obtain ⟨h0, h1, h2⟩ := hc
  unfold spec_l1Byte.f
  by_cases hi : i < (b.length : Int)
  · rw [if_pos hi, if_pos h0]
    exact ⟨_, _, _, rfl, (and255 _).1, (and255 _).2, by rw [w64 (by omega) (by omega)]; exact ⟨by omega, by omega, h2⟩⟩
  · rw [if_neg hi]
    exact ⟨_, _, _, rfl, (and255 _).1, (and255 _).2, h0, h1, h2⟩
theorem l1Below_ok (b : List Int) (i h n : Int) (hc : CurOk b i) : ∃ x i' h', spec_l1Below.f b i h n = some (x, i', h') ∧ 0 ≤ x ∧ (0 < n → x < n) ∧ CurOk b i' := by
  unfold spec_l1Below.f
  by_cases hn : n ≤ 0
  · rw [if_pos hn]
    exact ⟨_, _, _, rfl, by omega, by omega, hc⟩
  · rw [if_neg hn]
    obtain ⟨x, i1, g1, e1, hx0, hx1, c1⟩ := l1Byte_ok b i h hc
    by_cases hb : n ≤ 256
    · rw [if_pos hb, e1]
      simp only [Option.bind_some]
      rw [if_neg (by omega)]
      have := tmod_range hx0 (show 0 < n by omega)
      exact ⟨_, _, _, rfl, this.1, fun _ => this.2, c1⟩
    · obtain ⟨y, i2, g2, e2, hy0, hy1, c2⟩ := l1Byte_ok b i1 g1 c1
      obtain ⟨z, i3, g3, e3, hz0, hz1, c3⟩ := l1Byte_ok b i2 g2 c2
      rw [if_neg hb, e1]
      simp only [Option.bind_some, e2, e3]
      rw [if_neg (by omega), w64 (x := x * 65536) (by omega) (by omega), w64 (x := y * 256) (by omega) (by omega), w64 (x := x * 65536 + y * 256) (by omega) (by omega), w64 (by omega) (by omega)]
      have := tmod_range (show 0 ≤ x * 65536 + y * 256 + z by omega) (show 0 < n by omega)
      exact ⟨_, _, _, rfl, this.1, fun _ => this.2, c3⟩

/-! ### CurNew -/
theorem l1New_l (b : List Int) (hb : b.length ≤ 140737488351232) (d : Nat) : ∀ (k : Nat) (x i : Int), 0 ≤ i → (b.length : Int) - i = d → d < k → ∃ h, spec_l1New.l0 k b x i = some (b, 0, h) := by
  induction d with
  | zero =>
    intro k x i h0 hd hk
    obtain ⟨k, rfl⟩ : ∃ m, k = m + 1 := ⟨k - 1, by omega⟩
    simp only [spec_l1New.l0]
    rw [if_neg (by omega)]
    exact ⟨_, rfl⟩
  | succ d ih =>
    intro k x i h0 hd hk
    obtain ⟨k, rfl⟩ : ∃ m, k = m + 1 := ⟨k - 1, by omega⟩
    simp only [spec_l1New.l0]
    rw [if_pos (by omega)]
    by_cases h4 : i < 4000
    · rw [if_pos h4, if_pos h0, w64 (x := i + 1) (by omega) (by omega)]
      exact ih k _ _ (by omega) (by omega) (by omega)
    · rw [if_neg h4]
      exact ⟨_, rfl⟩
theorem l1New_ok (b : List Int) (hb : b.length ≤ 140737488351232) (k : Nat) (hk : b.length < k) : ∃ h, spec_l1New.f k b = some (b, 0, h) ∧ CurOk b 0 := by
  obtain ⟨h, e⟩ := l1New_l b hb b.length k (wrap64 (140873 + (b.length : Int))) 0 (by omega) (by omega) hk
  exact ⟨h, e, by omega, by omega, hb⟩

/-! ### CurOnce -/
theorem l1Once_ok (b : List Int) (i h n : Int) (hc : CurOk b i) : ∃ t i' h', spec_l1Once.f b i h n = some (t, i', h') ∧ CurOk b i' := by
  obtain ⟨x, i1, h1, e, _, _, c⟩ := l1Below_ok b i h n hc
  unfold spec_l1Once.f
  rw [e]
  exact ⟨_, _, _, rfl, c⟩

/-! ### CurStr -/
theorem l1Str_ok (b : List Int) (i h : Int) (l : List ByteArray) (hl : 0 < l.length) (hc : CurOk b i) : ∃ s i' h', spec_l1Str.f b i h l = some (s, i', h') ∧ s ∈ l ∧ CurOk b i' := by
  obtain ⟨x, i1, h1, e, h0, hn, c⟩ := l1Below_ok b i h l.length hc
  unfold spec_l1Str.f
  rw [e]
  simp only [Option.bind_some]
  rw [if_pos h0, if_pos (hn (by omega))]
  exact ⟨_, _, _, rfl, rdOf_mem _ _ _ h0 (hn (by omega)), c⟩
theorem all13 (l : List ByteArray) (h : l.all (fun s => decide (s.size ≤ 13)) = true) : ∀ s ∈ l, s.size ≤ 13 := fun s hs => of_decide_eq_true (List.all_eq_true.1 h s hs)
theorem l1Str_sz (b : List Int) (i h : Int) (l : List ByteArray) (hl : 0 < l.length) (h13 : l.all (fun s => decide (s.size ≤ 13)) = true) (hc : CurOk b i) : ∃ s i' h', spec_l1Str.f b i h l = some (s, i', h') ∧ s.size ≤ 13 ∧ CurOk b i' := by
  obtain ⟨s, i', h', e, hm, c⟩ := l1Str_ok b i h l hl hc
  exact ⟨s, i', h', e, all13 l h13 s hm, c⟩

/-! ### L1Names -/
theorem l1Names_ok (b : List Int) (i h : Int) (hc : CurOk b i) : ∃ s i' h', spec_l1Names.f b i h = some (s, i', h') ∧ s.size ≤ 13 ∧ CurOk b i' := by
  unfold spec_l1Names.f
  obtain ⟨s, i2, h2, e2, hm, c2⟩ := l1Str_sz b i h (([(⟨#[97, 112, 112]⟩ : ByteArray), (⟨#[104, 111, 115, 116]⟩ : ByteArray), (⟨#[115, 101, 118]⟩ : ByteArray), (⟨#[122, 111, 110, 101]⟩ : ByteArray)] : List ByteArray)) (by decide) (by decide) hc
  rw [e2]
  exact ⟨_, _, _, rfl, hm, c2⟩

/-! ### L1AnyName -/
theorem l1AnyName_ok (b : List Int) (i h : Int) (hc : CurOk b i) : ∃ s i' h', spec_l1AnyName.f b i h = some (s, i', h') ∧ s.size ≤ 13 ∧ CurOk b i' := by
  unfold spec_l1AnyName.f
  obtain ⟨t, i1, h1, e1, c1⟩ := l1Once_ok b i h 2 hc
  rw [e1]
  simp only [Option.bind_some]
  by_cases ht : t = true
  · rw [if_pos ht]
    obtain ⟨s, i2, h2, e2, hm, c2⟩ := l1Names_ok b i1 h1 c1
    rw [e2]
    exact ⟨_, _, _, rfl, hm, c2⟩
  · rw [if_neg ht]
    obtain ⟨s, i2, h2, e2, hm, c2⟩ := l1Str_sz b i1 h1 (([(⟨#[]⟩ : ByteArray), (⟨#[65]⟩ : ByteArray), (⟨#[110, 105, 110, 101, 99, 104, 97, 114, 115]⟩ : ByteArray), (⟨#[101, 105, 103, 104, 116, 97, 98, 99]⟩ : ByteArray), (⟨#[97, 32, 98]⟩ : ByteArray), (⟨#[97, 49]⟩ : ByteArray)] : List ByteArray)) (by decide) (by decide) c1
    rw [e2]
    exact ⟨_, _, _, rfl, hm, c2⟩

/-! ### DrawNameOk -/
theorem DrawNameOk_ok (b : List Int) (hb : b.length ≤ 140737488351232) (k : Nat) (hk : b.length + 8 < k) : ∃ s, spec_DrawNameOk.f k b = some s ∧ s.size ≤ 13 := by
  unfold spec_DrawNameOk.f
  obtain ⟨h, e, c⟩ := l1New_ok b hb k (by omega)
  rw [e]
  simp only [Option.bind_some]
  obtain ⟨s, i1, h1, e1, hs, c1⟩ := l1AnyName_ok b 0 h c
  rw [e1]
  exact ⟨_, rfl, hs⟩

/-! ### L1Plain -/
theorem l1Plain_ok (b : List Int) (i h : Int) (hc : CurOk b i) : ∃ s i' h', spec_l1Plain.f b i h = some (s, i', h') ∧ s.size ≤ 13 ∧ CurOk b i' := by
  unfold spec_l1Plain.f
  obtain ⟨s, i2, h2, e2, hm, c2⟩ := l1Str_sz b i h (([(⟨#[97]⟩ : ByteArray), (⟨#[98]⟩ : ByteArray), (⟨#[120, 32, 121]⟩ : ByteArray), (⟨#[]⟩ : ByteArray), (⟨#[99, 114, 105, 116]⟩ : ByteArray), (⟨#[125, 45]⟩ : ByteArray)] : List ByteArray)) (by decide) (by decide) hc
  rw [e2]
  exact ⟨_, _, _, rfl, hm, c2⟩

/-! ### L1AnyPlain -/
theorem l1AnyPlain_ok (b : List Int) (i h : Int) (hc : CurOk b i) : ∃ s i' h', spec_l1AnyPlain.f b i h = some (s, i', h') ∧ s.size ≤ 13 ∧ CurOk b i' := by
  unfold spec_l1AnyPlain.f
  obtain ⟨t, i1, h1, e1, c1⟩ := l1Once_ok b i h 2 hc
  rw [e1]
  simp only [Option.bind_some]
  by_cases ht : t = true
  · rw [if_pos ht]
    obtain ⟨s, i2, h2, e2, hm, c2⟩ := l1Plain_ok b i1 h1 c1
    rw [e2]
    exact ⟨_, _, _, rfl, hm, c2⟩
  · rw [if_neg ht]
    obtain ⟨s, i2, h2, e2, hm, c2⟩ := l1Str_sz b i1 h1 (([(⟨#[34]⟩ : ByteArray), (⟨#[92]⟩ : ByteArray), (⟨#[127]⟩ : ByteArray), (⟨#[31]⟩ : ByteArray), (⟨#[116, 119, 101, 108, 118, 101, 32, 98, 121, 116, 101, 115]⟩ : ByteArray), (⟨#[116, 104, 105, 114, 116, 101, 101, 110, 98, 121, 116, 101, 115]⟩ : ByteArray), (⟨#[126]⟩ : ByteArray), (⟨#[125]⟩ : ByteArray), (⟨#[44, 32, 98, 61]⟩ : ByteArray), (⟨#[125, 32, 49, 45, 50]⟩ : ByteArray)] : List ByteArray)) (by decide) (by decide) c1
    rw [e2]
    exact ⟨_, _, _, rfl, hm, c2⟩

/-! ### DrawPlainOk -/
theorem DrawPlainOk_ok (b : List Int) (hb : b.length ≤ 140737488351232) (k : Nat) (hk : b.length + 8 < k) : ∃ s, spec_DrawPlainOk.f k b = some s ∧ s.size ≤ 13 := by
  unfold spec_DrawPlainOk.f
  obtain ⟨h, e, c⟩ := l1New_ok b hb k (by omega)
  rw [e]
  simp only [Option.bind_some]
  obtain ⟨s, i1, h1, e1, hs, c1⟩ := l1AnyPlain_ok b 0 h c
  rw [e1]
  exact ⟨_, rfl, hs⟩

/-! ### DrawLess -/
theorem DrawLess_ok (b : List Int) (hb : b.length ≤ 140737488351232) (k : Nat) (hk : b.length + 8 < k) : ∃ x y, spec_DrawLess.f k b = some (x, y) := by
  unfold spec_DrawLess.f
  obtain ⟨h, e, c⟩ := l1New_ok b hb k (by omega)
  rw [e]
  simp only [Option.bind_some]
  obtain ⟨s, i1, h1, e1, _, c1⟩ := l1Str_sz b 0 h (([(⟨#[]⟩ : ByteArray), (⟨#[97]⟩ : ByteArray), (⟨#[97, 98]⟩ : ByteArray), (⟨#[98]⟩ : ByteArray), (⟨#[97, 98, 99]⟩ : ByteArray)] : List ByteArray)) (by decide) (by decide) c
  rw [e1]
  simp only [Option.bind_some]
  obtain ⟨t, i2, h2, e2, _, c2⟩ := l1Str_sz b i1 h1 (([(⟨#[]⟩ : ByteArray), (⟨#[97]⟩ : ByteArray), (⟨#[97, 98]⟩ : ByteArray), (⟨#[98]⟩ : ByteArray), (⟨#[97, 98, 100]⟩ : ByteArray)] : List ByteArray)) (by decide) (by decide) c1
  rw [e2]
  exact ⟨_, _, rfl⟩

/-! ### DrawInOrder -/
theorem DrawInOrder_l (b : List Int) (names : List ByteArray) (hn : names.length ≤ 4) (d : Nat) : ∀ (k : Nat) (l : List ByteArray) (j i h : Int), 0 ≤ j → j + d = (names.length : Int) → l.length ≤ j.toNat → CurOk b i → d < k →
    ∃ r, spec_DrawInOrder.l0 k l names names.length j b i h = some r ∧ r.length ≤ 5 := by
  induction d with
  | zero =>
    intro k l j i h h0 hd hl hc hk
    obtain ⟨k, rfl⟩ : ∃ m, k = m + 1 := ⟨k - 1, by omega⟩
    simp only [spec_DrawInOrder.l0]
    rw [if_neg (by omega)]
    obtain ⟨t, i1, h1, e1, c1⟩ := l1Once_ok b i h 3 hc
    rw [e1]
    simp only [Option.bind_some]
    by_cases ht : t = true
    · rw [if_pos ht]
      obtain ⟨s, i2, h2, e2, hs, c2⟩ := l1AnyName_ok b i1 h1 c1
      rw [e2]
      simp only [Option.bind_some]
      rw [if_pos (by omega)]
      exact ⟨_, rfl, by simp; omega⟩
    · rw [if_neg ht]
      exact ⟨_, rfl, by omega⟩
  | succ d ih =>
    intro k l j i h h0 hd hl hc hk
    obtain ⟨k, rfl⟩ : ∃ m, k = m + 1 := ⟨k - 1, by omega⟩
    simp only [spec_DrawInOrder.l0]
    rw [if_pos (by omega), if_pos h0, if_pos (by omega)]
    obtain ⟨t, i1, h1, e1, c1⟩ := l1Once_ok b i h 2 hc
    rw [e1]
    simp only [Option.bind_some]
    by_cases ht : t = true
    · rw [if_pos ht, if_pos (by omega), w64 (x := j + 1) (by omega) (by omega)]
      exact ih k _ _ _ _ (by omega) (by omega) (by simp; omega) c1 (by omega)
    · rw [if_neg ht, w64 (x := j + 1) (by omega) (by omega)]
      exact ih k _ _ _ _ (by omega) (by omega) (by omega) c1 (by omega)
theorem DrawInOrder_ok (b : List Int) (hb : b.length ≤ 140737488351232) (k : Nat) (hk : b.length + 8 < k) : ∃ l, spec_DrawInOrder.f k b = some l ∧ l.length ≤ 5 := by
  unfold spec_DrawInOrder.f
  obtain ⟨h, e, c⟩ := l1New_ok b hb k (by omega)
  rw [e]
  simp only [Option.bind_some]
  exact DrawInOrder_l b _ (by decide) 4 k _ 0 _ _ (by omega) (by decide) (by simp) c (by omega)

/-! ### CurInt -/
theorem l1Int_ok (b : List Int) (i h : Int) (l : List Int) (hl : 0 < l.length) (hc : CurOk b i) : ∃ s i' h', spec_l1Int.f b i h l = some (s, i', h') ∧ s ∈ l ∧ CurOk b i' := by
  obtain ⟨x, i1, h1, e, h0, hn, c⟩ := l1Below_ok b i h l.length hc
  unfold spec_l1Int.f
  rw [e]
  simp only [Option.bind_some]
  rw [if_pos h0, if_pos (hn (by omega))]
  exact ⟨_, _, _, rfl, rd_mem_int _ _ h0 (hn (by omega)), c⟩

/-! ### L1Raw -/
theorem l1Odd_ok (b : List Int) (i h : Int) (hc : CurOk b i) : ∃ x i' h', spec_l1Odd.f b i h = some (x, i', h') ∧ (-9223372036854775808 ≤ x ∧ x ≤ 9223372036854775807) ∧ CurOk b i' := by
  unfold spec_l1Odd.f
  obtain ⟨s, i2, h2, e2, hm, c2⟩ := l1Int_ok b i h (([(-1), 0, 1, 2, 255, 256, 65535, 2147483647, 2147483648, 4294967295, 4294967296, (-2147483648), 9223372036854775807, (-9223372036854775808)] : List Int)) (by decide) hc
  rw [e2]
  refine ⟨_, _, _, rfl, ?_, c2⟩
  simp only [List.mem_cons, List.not_mem_nil, or_false] at hm
  omega
theorem l1Raw_ok (b : List Int) (i h : Int) (hc : CurOk b i) : ∃ x i' h', spec_l1Raw.f b i h = some (x, i', h') ∧ (-9223372036854775808 ≤ x ∧ x ≤ 9223372036854775807) ∧ CurOk b i' := by
  unfold spec_l1Raw.f
  obtain ⟨t, i1, h1, e1, c1⟩ := l1Once_ok b i h 2 hc
  rw [e1]
  simp only [Option.bind_some]
  by_cases ht : t = true
  · rw [if_pos ht]
    obtain ⟨s, i2, h2, e2, hm, c2⟩ := l1Odd_ok b i1 h1 c1
    rw [e2]
    exact ⟨_, _, _, rfl, hm, c2⟩
  · rw [if_neg ht]
    obtain ⟨s, i2, h2, e2, hm, c2⟩ := l1Int_ok b i1 h1 (([(-1), 0, 1, 3, 99999, 100000] : List Int)) (by decide) c1
    rw [e2]
    refine ⟨_, _, _, rfl, ?_, c2⟩
    simp only [List.mem_cons, List.not_mem_nil, or_false] at hm
    omega

/-! ### DrawLeast -/
theorem DrawLeast_ok (b : List Int) (hb : b.length ≤ 140737488351232) (k : Nat) (hk : b.length + 8 < k) : ∃ x y, spec_DrawLeast.f k b = some (x, y) := by
  unfold spec_DrawLeast.f
  obtain ⟨h, e, c⟩ := l1New_ok b hb k (by omega)
  rw [e]
  simp only [Option.bind_some]
  obtain ⟨s, i1, h1, e1, _, c1⟩ := l1Raw_ok b 0 h c
  rw [e1]
  simp only [Option.bind_some]
  obtain ⟨t, i2, h2, e2, _, c2⟩ := l1Raw_ok b i1 h1 c1
  rw [e2]
  exact ⟨_, _, rfl⟩

/-! ### DrawMost -/
theorem DrawMost_ok (b : List Int) (hb : b.length ≤ 140737488351232) (k : Nat) (hk : b.length + 8 < k) : ∃ x y, spec_DrawMost.f k b = some (x, y) := by
  unfold spec_DrawMost.f
  obtain ⟨h, e, c⟩ := l1New_ok b hb k (by omega)
  rw [e]
  simp only [Option.bind_some]
  obtain ⟨s, i1, h1, e1, _, c1⟩ := l1Raw_ok b 0 h c
  rw [e1]
  simp only [Option.bind_some]
  obtain ⟨t, i2, h2, e2, _, c2⟩ := l1Raw_ok b i1 h1 c1
  rw [e2]
  exact ⟨_, _, rfl⟩

/-! ### NameOk -/
def nameB (s : ByteArray) (i : Int) : Bool := !(decide (bt s i < 97) || decide (bt s i > 122))
def inB (x a b : Int) : Bool := decide (a ≤ x) && decide (x ≤ b)
def nameOk (s : ByteArray) : Bool := allFrom (nameB s) s.size 0 && inB s.size 1 8
theorem spec_l1In_eq (x a b : Int) : spec_l1In.f x a b = some (inB x a b) := by
  unfold spec_l1In.f inB
  by_cases h : x ≥ a
  · rw [if_pos h, decide_eq_true (show a ≤ x from h)]; simp
  · rw [if_neg h, decide_eq_false (show ¬ a ≤ x from h)]; simp
theorem impl_in_eq (x a b : Int) : impl_in.f x a b = some (inB x a b) := by
  unfold impl_in.f inB
  by_cases h : x ≥ a
  · rw [if_pos h, decide_eq_true (show a ≤ x from h)]; simp
  · rw [if_neg h, decide_eq_false (show ¬ a ≤ x from h)]; simp
theorem name_round (s : ByteArray) (i : Int) (x : Option Bool) :
    (if (bt s i) < 97 then (some false) else (if (bt s i) > 122 then (some false) else x)) = if nameB s i = true then x else some false := by
  by_cases h1 : bt s i < 97
  · simp [nameB, h1]
  by_cases h2 : bt s i > 122
  · simp [nameB, h2]
  rw [if_neg h1, if_neg h2, if_pos (by simp [nameB, h1, h2])]
theorem spec_NameOk_eq (s : ByteArray) (hn : s.size ≤ 140737488351232) (k : Nat) (hk : s.size < k) : spec_NameOk.f k s = some (nameOk s) := by
  unfold spec_NameOk.f nameOk
  rw [all_loop hn 0 (nameB s) (fun k i => spec_NameOk.l0 k s i) (some (inB s.size 1 8)) ?_ ?_ s.size k 0 (by omega) (by omega) (by omega) (by omega)]
  · by_cases h : allFrom (nameB s) s.size 0 = true
    · simp [h]
    · simp [h]
  · intro k i _ h0 h1
    simp only [spec_NameOk.l0]
    rw [if_pos h1, if_pos h0, name_round]
  · intro k _
    simp only [spec_NameOk.l0]
    rw [if_neg (by omega), spec_l1In_eq]; rfl
theorem impl_NameOk_eq (s : ByteArray) (hn : s.size ≤ 140737488351232) (k : Nat) (hk : s.size < k) : impl_NameOk.f k s = some (nameOk s) := by
  unfold impl_NameOk.f nameOk
  rw [impl_in_eq]
  simp only [Option.bind_some]
  by_cases h12 : inB s.size 1 8 = true
  · rw [if_pos h12, h12]
    rw [all_loop hn 0 (nameB s) (fun k i => impl_NameOk.l0 k s i) (some true) ?_ ?_ s.size k 0 (by omega) (by omega) (by omega) (by omega)]
    · by_cases h : allFrom (nameB s) s.size 0 = true
      · simp [h]
      · simp [h]
    · intro k i _ h0 h1
      simp only [impl_NameOk.l0]
      rw [if_pos h1, if_pos h0, name_round]
    · intro k _
      simp only [impl_NameOk.l0]
      rw [if_neg (by omega)]
  · rw [if_neg h12]; simp [h12]

/-! ### PlainOk -/
def plainB (s : ByteArray) (i : Int) : Bool := !(decide (bt s i < 32) || decide (bt s i > 126) || decide (bt s i = 34) || decide (bt s i = 92))
def plainOk (s : ByteArray) : Bool := allFrom (plainB s) s.size 0 && decide ((s.size : Int) ≤ 12)
theorem plain_round (s : ByteArray) (i : Int) (x : Option Bool) :
    (if (bt s i) < 32 then (some false) else (if (bt s i) > 126 then (some false) else (if (bt s i) = 34 then (some false) else (if (bt s i) = 92 then (some false) else x)))) = if plainB s i = true then x else some false := by
  by_cases h1 : bt s i < 32
  · simp [plainB, h1]
  by_cases h2 : bt s i > 126
  · simp [plainB, h2]
  by_cases h3 : bt s i = 34
  · simp [plainB, h3]
  by_cases h4 : bt s i = 92
  · simp [plainB, h4]
  rw [if_neg h1, if_neg h2, if_neg h3, if_neg h4, if_pos (by simp [plainB, h1, h2, h3, h4])]
theorem spec_PlainOk_eq (s : ByteArray) (hn : s.size ≤ 140737488351232) (k : Nat) (hk : s.size < k) : spec_PlainOk.f k s = some (plainOk s) := by
  unfold spec_PlainOk.f plainOk
  rw [all_loop hn 0 (plainB s) (fun k i => spec_PlainOk.l0 k s i) (some (decide ((s.size : Int) ≤ 12))) ?_ ?_ s.size k 0 (by omega) (by omega) (by omega) (by omega)]
  · by_cases h : allFrom (plainB s) s.size 0 = true
    · simp [h]
    · simp [h]
  · intro k i _ h0 h1
    simp only [spec_PlainOk.l0]
    rw [if_pos h1, if_pos h0, plain_round]
  · intro k _
    simp only [spec_PlainOk.l0]
    rw [if_neg (by omega)]
theorem impl_PlainOk_eq (s : ByteArray) (hn : s.size ≤ 140737488351232) (k : Nat) (hk : s.size < k) : impl_PlainOk.f k s = some (plainOk s) := by
  unfold impl_PlainOk.f plainOk
  by_cases h12 : (s.size : Int) > 12
  · rw [if_pos h12, decide_eq_false (by omega)]; simp
  · rw [if_neg h12, decide_eq_true (by omega)]
    rw [all_loop hn 0 (plainB s) (fun k i => impl_PlainOk.l0 k s i) (some true) ?_ ?_ s.size k 0 (by omega) (by omega) (by omega) (by omega)]
    · by_cases h : allFrom (plainB s) s.size 0 = true
      · simp [h]
      · simp [h]
    · intro k i _ h0 h1
      simp only [impl_PlainOk.l0]
      rw [if_pos h1, if_pos h0, plain_round]
    · intro k _
      simp only [impl_PlainOk.l0]
      rw [if_neg (by omega)]

/-! ### InOrder -/
def orderB (l : List ByteArray) (i : Int) : Bool := Op.bytesLess (rdOf ByteArray.empty l (i - 1)).toList (rdOf ByteArray.empty l i).toList
def inOrder (l : List ByteArray) : Bool := allFrom (orderB l) (l.length - 1) 1
theorem spec_InOrder_eq (l : List ByteArray) (hl : l.length ≤ 1048576) (k : Nat) (hk : l.length < k) : spec_InOrder.f k l = some (inOrder l) := by
  unfold spec_InOrder.f inOrder
  by_cases hz : l.length = 0
  · obtain ⟨k, rfl⟩ : ∃ m, k = m + 1 := ⟨k - 1, by omega⟩
    simp only [spec_InOrder.l0]
    rw [if_neg (by omega), hz]; rfl
  · rw [all_loop_from (n := l.length) (by omega) 1 (by omega) 0 (orderB l) (fun k i => spec_InOrder.l0 k l i) (some true) ?_ ?_ (l.length - 1) k 1 (by omega) (by omega) (by omega) (by omega), bool_of_if]
    · intro k i _ h0 h1
      simp only [spec_InOrder.l0]
      rw [if_pos h1, w64 (x := i - 1) (by omega) (by omega), if_pos (by omega), if_pos (by omega), if_pos (by omega)]
      simp only [spec_Less.f, Option.bind_some]; rfl
    · intro k _
      simp only [spec_InOrder.l0]
      rw [if_neg (by omega)]
theorem impl_InOrder_eq (l : List ByteArray) (hl : l.length ≤ 1048576) (k : Nat) (hk : l.length < k) : impl_InOrder.f k l = some (inOrder l) := by
  unfold impl_InOrder.f inOrder
  by_cases hz : l.length = 0
  · obtain ⟨k, rfl⟩ : ∃ m, k = m + 1 := ⟨k - 1, by omega⟩
    simp only [impl_InOrder.l0]
    rw [if_neg (by omega), hz]; rfl
  · rw [all_loop_from (n := l.length) (by omega) 1 (by omega) 0 (orderB l) (fun k i => impl_InOrder.l0 k l i) (some true) ?_ ?_ (l.length - 1) k 1 (by omega) (by omega) (by omega) (by omega), bool_of_if]
    · intro k i _ h0 h1
      simp only [impl_InOrder.l0]
      rw [if_pos h1, w64 (x := i - 1) (by omega) (by omega), if_pos (by omega), if_pos (by omega), if_pos (by omega)]
      rfl
    · intro k _
      simp only [impl_InOrder.l0]
      rw [if_neg (by omega)]

/-! ### Least -/
theorem spec_Least_eq (a b : Int) : spec_Least.f a b = some (mn a b) := by
  unfold spec_Least.f
  split <;> (congr 1; unfold mn; omega)

/-! ### Most -/
theorem spec_Most_eq (a b : Int) : spec_Most.f a b = some (mx a b) := by
  unfold spec_Most.f
  split <;> (congr 1; unfold mx; omega)

theorem plain_nil : plainOk (⟨#[]⟩ : ByteArray) = true := by decide
theorem FnWords : laws_FnWords.Pure := by
  intro b hb _ _
  obtain ⟨m, hm⟩ : ∃ m : Nat, 4194304 < m := ⟨4194305, by omega⟩
  refine ⟨m + 1, ?_⟩
  unfold laws_FnWords.f laws_big.f
  simp only [Option.bind_some]
  by_cases hz : (b.length : Int) > 1048576
  · rw [if_pos (decide_eq_true hz)]
  · rw [if_neg (by simpa using hz)]
    obtain ⟨u, eu, hu⟩ := DrawNameOk_ok b (by omega) (m + 1) (by omega)
    obtain ⟨v, ev, hv⟩ := DrawPlainOk_ok b (by omega) (m + 1) (by omega)
    obtain ⟨p, q, epq⟩ := DrawLess_ok b (by omega) (m + 1) (by omega)
    obtain ⟨l, el, hl⟩ := DrawInOrder_ok b (by omega) (m + 1) (by omega)
    obtain ⟨x, y, exy⟩ := DrawLeast_ok b (by omega) (m + 1) (by omega)
    obtain ⟨z, w, ezw⟩ := DrawMost_ok b (by omega) (m + 1) (by omega)
    rw [eu, ev, epq, el, exy, ezw]
    simp only [Option.bind_some]
    rw [impl_NameOk_eq u (by omega) _ (by omega), spec_NameOk_eq u (by omega) _ (by omega), impl_PlainOk_eq v (by omega) _ (by omega), spec_PlainOk_eq v (by omega) _ (by omega), impl_InOrder_eq l (by omega) _ (by omega), spec_InOrder_eq l (by omega) _ (by omega)]
    simp only [Option.bind_some, bne_self_eq_false, Bool.false_eq_true, if_false, impl_Least.f, impl_Most.f, spec_Least_eq, spec_Most_eq, if_true, laws_FnWords.j0, impl_Less.f, spec_Less.f, beq_self_eq_true]
    have hle : mn x y ≤ mx x y := by unfold mn mx; omega
    rw [impl_PlainOk_eq (⟨#[]⟩ : ByteArray) (by decide) m (by show 0 < m; omega), plain_nil, if_pos hle, M3.bl_irrefl]
    simp only [Option.bind_some, Bool.false_eq_true, if_false]
    by_cases hpq : p.toList = q.toList
    · rw [if_pos hpq]
    · rw [if_neg hpq]
      rcases M3.bl_total _ _ hpq with h | h
      · rw [h, M3.bl_asymm _ _ h]; rfl
      · rw [h, M3.bl_asymm _ _ h]; rfl

end Go.Proofs.Ytglefglknlcojab.Pure
