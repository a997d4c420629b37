/- Of two drawn, unlike rows of labels one is ahead of the other, and of none is itself: for every draw; no conditions. -/
import Derived.Test.YtglefglknlcojaaPFnSetOrderx4
import Derived.Test.YtglefglknlcojaaM0
import Derived.Test.YtglefglknlcojaaM1
import Derived.Test.YtglefglknlcojaaM2
import Derived.Test.YtglefglknlcojaaM3
import Derived.Test.YtglefglknlcojaaM4
import Derived.Test.YtglefglknlcojaaM5
set_option linter.unusedVariables false
set_option linter.unusedSimpArgs false
namespace Go.Proofs.Ytglefglknlcojaa.Pure
open Go.RowKit Go.Proofs.Ytglefglknlcojaa.PFnSetOrder Go.Proofs.YtglefglknlcojaaW.PrintWords Go.Proofs.YtglefglknlcojaaW.PrintLast Go.Proofs.Ytglefglknlcojaa.M0 Go.Proofs.Ytglefglknlcojaa.M1 Go.Proofs.Ytglefglknlcojaa.M2 Go.Proofs.Ytglefglknlcojaa.M3 Go.Proofs.Ytglefglknlcojaa.M4 Go.Proofs.Ytglefglknlcojaa.M5

/-! ### Cur -/
theorem l1Byte_ok (b : List Int) (i h : Int) (hc : CurOk b i) : ∃ x i' h', spec_l1Byte.f b i h = some (x, i', h') ∧ 0 ≤ x ∧ x ≤ 255 ∧ CurOk b i' := by
  obtain ⟨h0, h1, h2⟩ := hc
  unfold spec_l1Byte.f
  by_cases hi : i < (b.length : Int)
  · rw [if_pos hi, if_pos h0]
    exact ⟨_, _, _, rfl, (and255 _).1, (and255 _).2, by rw [w64 (by omega) (by omega)]; exact ⟨by omega, by omega, h2⟩⟩
  · rw [if_neg hi]
    exact ⟨_, _, _, rfl, (and255 _).1, (and255 _).2, h0, h1, h2⟩
theorem l1Below_ok (b : List Int) (i h n : Int) (hc : CurOk b i) : ∃ x i' h', spec_l1Below.f b i h n = some (x, i', h') ∧ 0 ≤ x ∧ (0 < n → x < n) ∧ CurOk b i' := by
  unfold spec_l1Below.f
  by_cases hn : n ≤ 0
  · rw [if_pos hn]
    exact ⟨_, _, _, rfl, by omega, by omega, hc⟩
  · rw [if_neg hn]
    obtain ⟨x, i1, g1, e1, hx0, hx1, c1⟩ := l1Byte_ok b i h hc
    by_cases hb : n ≤ 256
    · rw [if_pos hb, e1]
      simp only [Option.bind_some]
      rw [if_neg (by omega)]
      have := tmod_range hx0 (show 0 < n by omega)
      exact ⟨_, _, _, rfl, this.1, fun _ => this.2, c1⟩
    · obtain ⟨y, i2, g2, e2, hy0, hy1, c2⟩ := l1Byte_ok b i1 g1 c1
      obtain ⟨z, i3, g3, e3, hz0, hz1, c3⟩ := l1Byte_ok b i2 g2 c2
      rw [if_neg hb, e1]
      simp only [Option.bind_some, e2, e3]
      rw [if_neg (by omega), w64 (x := x * 65536) (by omega) (by omega), w64 (x := y * 256) (by omega) (by omega), w64 (x := x * 65536 + y * 256) (by omega) (by omega), w64 (by omega) (by omega)]
      have := tmod_range (show 0 ≤ x * 65536 + y * 256 + z by omega) (show 0 < n by omega)
      exact ⟨_, _, _, rfl, this.1, fun _ => this.2, c3⟩

/-! ### CurNew -/
theorem l1New_l (b : List Int) (hb : b.length ≤ 140737488351232) (d : Nat) : ∀ (k : Nat) (x i : Int), 0 ≤ i → (b.length : Int) - i = d → d < k → ∃ h, spec_l1New.l0 k b x i = some (b, 0, h) := by
  induction d with
  | zero =>
    intro k x i h0 hd hk
    obtain ⟨k, rfl⟩ : ∃ m, k = m + 1 := ⟨k - 1, by omega⟩
    simp only [spec_l1New.l0]
    rw [if_neg (by omega)]
    exact ⟨_, rfl⟩
  | succ d ih =>
    intro k x i h0 hd hk
    obtain ⟨k, rfl⟩ : ∃ m, k = m + 1 := ⟨k - 1, by omega⟩
    simp only [spec_l1New.l0]
    rw [if_pos (by omega)]
    by_cases h4 : i < 4000
    · rw [if_pos h4, if_pos h0, w64 (x := i + 1) (by omega) (by omega)]
      exact ih k _ _ (by omega) (by omega) (by omega)
    · rw [if_neg h4]
      exact ⟨_, rfl⟩
theorem l1New_ok (b : List Int) (hb : b.length ≤ 140737488351232) (k : Nat) (hk : b.length < k) : ∃ h, spec_l1New.f k b = some (b, 0, h) ∧ CurOk b 0 := by
  obtain ⟨h, e⟩ := l1New_l b hb b.length k (wrap64 (140873 + (b.length : Int))) 0 (by omega) (by omega) hk
  exact ⟨h, e, by omega, by omega, hb⟩

/-! ### CurOnce -/
theorem l1Once_ok (b : List Int) (i h n : Int) (hc : CurOk b i) : ∃ t i' h', spec_l1Once.f b i h n = some (t, i', h') ∧ CurOk b i' := by
  obtain ⟨x, i1, h1, e, _, _, c⟩ := l1Below_ok b i h n hc
  unfold spec_l1Once.f
  rw [e]
  exact ⟨_, _, _, rfl, c⟩

/-! ### CurStr -/
theorem l1Str_ok (b : List Int) (i h : Int) (l : List ByteArray) (hl : 0 < l.length) (hc : CurOk b i) : ∃ s i' h', spec_l1Str.f b i h l = some (s, i', h') ∧ s ∈ l ∧ CurOk b i' := by
  obtain ⟨x, i1, h1, e, h0, hn, c⟩ := l1Below_ok b i h l.length hc
  unfold spec_l1Str.f
  rw [e]
  simp only [Option.bind_some]
  rw [if_pos h0, if_pos (hn (by omega))]
  exact ⟨_, _, _, rfl, rdOf_mem _ _ _ h0 (hn (by omega)), c⟩
theorem all13 (l : List ByteArray) (h : l.all (fun s => decide (s.size ≤ 13)) = true) : ∀ s ∈ l, s.size ≤ 13 := fun s hs => of_decide_eq_true (List.all_eq_true.1 h s hs)
theorem l1Str_sz (b : List Int) (i h : Int) (l : List ByteArray) (hl : 0 < l.length) (h13 : l.all (fun s => decide (s.size ≤ 13)) = true) (hc : CurOk b i) : ∃ s i' h', spec_l1Str.f b i h l = some (s, i', h') ∧ s.size ≤ 13 ∧ CurOk b i' := by
  obtain ⟨s, i', h', e, hm, c⟩ := l1Str_ok b i h l hl hc
  exact ⟨s, i', h', e, all13 l h13 s hm, c⟩

/-! ### NameOk -/
def nameB (s : ByteArray) (i : Int) : Bool := !(decide (bt s i < 97) || decide (bt s i > 122))
def inB (x a b : Int) : Bool := decide (a ≤ x) && decide (x ≤ b)
def nameOk (s : ByteArray) : Bool := allFrom (nameB s) s.size 0 && inB s.size 1 8
theorem name_round (s : ByteArray) (i : Int) (x : Option Bool) :
    (if (bt s i) < 97 then (some false) else (if (bt s i) > 122 then (some false) else x)) = if nameB s i = true then x else some false := by
  by_cases h1 : bt s i < 97
  · simp [nameB, h1]
  by_cases h2 : bt s i > 122
  · simp [nameB, h2]
  rw [if_neg h1, if_neg h2, if_pos (by simp [nameB, h1, h2])]

/-! ### PlainOk -/
def plainB (s : ByteArray) (i : Int) : Bool := !(decide (bt s i < 32) || decide (bt s i > 126) || decide (bt s i = 34) || decide (bt s i = 92))
def plainOk (s : ByteArray) : Bool := allFrom (plainB s) s.size 0 && decide ((s.size : Int) ≤ 12)
theorem plain_round (s : ByteArray) (i : Int) (x : Option Bool) :
    (if (bt s i) < 32 then (some false) else (if (bt s i) > 126 then (some false) else (if (bt s i) = 34 then (some false) else (if (bt s i) = 92 then (some false) else x)))) = if plainB s i = true then x else some false := by
  by_cases h1 : bt s i < 32
  · simp [plainB, h1]
  by_cases h2 : bt s i > 126
  · simp [plainB, h2]
  by_cases h3 : bt s i = 34
  · simp [plainB, h3]
  by_cases h4 : bt s i = 92
  · simp [plainB, h4]
  rw [if_neg h1, if_neg h2, if_neg h3, if_neg h4, if_pos (by simp [plainB, h1, h2, h3, h4])]

/-! ### LabelOk -/
def labelOk (a b : ByteArray) : Bool := nameOk a && plainOk b

/-! ### SetOk -/
/-- Each label's sizes. -/
def SizedL (M : Nat) (l : List S81) : Prop := ∀ x ∈ l, x.f0.size ≤ M ∧ x.f1.size ≤ M
theorem rd_mem (l : List S81) (i : Int) (h0 : 0 ≤ i) (h1 : i < (l.length : Int)) : rd_T81 l i ∈ l := by
  unfold rd_T81
  rw [List.getD_eq_getElem?_getD, List.getElem?_eq_getElem (by omega)]
  exact List.getElem_mem (by omega)
def setB (l : List S81) (i : Int) : Bool := labelOk (rd_T81 l i).f0 (rd_T81 l i).f1 && (decide (i = 0) || Op.bytesLess (rd_T81 l (i - 1)).f0.toList (rd_T81 l i).f0.toList)
def setOk (l : List S81) : Bool := allFrom (setB l) l.length 0 && decide (l.length ≤ 4)

/-! ### L2 -/
theorem sized_append (M : Nat) {a b : List S81} (ha : SizedL M a) (hb : SizedL M b) : SizedL M (a ++ b) := by
  intro x hx
  rcases List.mem_append.1 hx with h | h
  · exact ha x h
  · exact hb x h
theorem sized_one (M : Nat) {x y : ByteArray} (hx : x.size ≤ M) (hy : y.size ≤ M) : SizedL M [(⟨x, y⟩ : S81)] := by
  intro z hz
  rw [List.mem_singleton.1 hz]
  exact ⟨hx, hy⟩
theorem sized_set (M : Nat) {a : List S81} (ha : SizedL M a) (n : Nat) {x y : ByteArray} (hx : x.size ≤ M) (hy : y.size ≤ M) : SizedL M (a.set n (⟨x, y⟩ : S81)) := by
  intro z hz
  rcases List.mem_or_eq_of_mem_set hz with h | h
  · exact ha z h
  · rw [h]; exact ⟨hx, hy⟩
theorem l2Draw_l (b : List Int) (names : List ByteArray) (hn : names.length ≤ 4) (hs : ∀ s ∈ names, s.size ≤ 13) (d : Nat) : ∀ (k : Nat) (l : List S81) (j i h : Int), 0 ≤ j → j + d = (names.length : Int) → 1 ≤ l.length → l.length ≤ j + 1 → SizedL 13 l → CurOk b i → d < k →
    ∃ r i' h', spec_l2Draw.l0 k l names names.length j b i h = some (r, i', h') ∧ 1 ≤ r.length ∧ r.length ≤ names.length + 1 ∧ SizedL 13 r ∧ CurOk b i' := by
  induction d with
  | zero =>
    intro k l j i h h0 hd hl hl' hsz hc hk
    obtain ⟨k, rfl⟩ : ∃ m, k = m + 1 := ⟨k - 1, by omega⟩
    simp only [spec_l2Draw.l0]
    rw [if_neg (by omega)]
    exact ⟨_, _, _, rfl, hl, by omega, hsz, hc⟩
  | succ d ih =>
    intro k l j i h h0 hd hl hl' hsz hc hk
    obtain ⟨k, rfl⟩ : ∃ m, k = m + 1 := ⟨k - 1, by omega⟩
    simp only [spec_l2Draw.l0]
    rw [if_pos (by omega), if_pos h0, if_pos (by omega)]
    obtain ⟨t, i1, h1, e1, c1⟩ := l1Once_ok b i h 4 hc
    rw [e1]
    simp only [Option.bind_some]
    by_cases ht : t = true
    · rw [if_pos ht]
      obtain ⟨s, i2, h2, e2, hm, c2⟩ := l1Str_ok b i1 h1 (([(⟨#[49]⟩ : ByteArray), (⟨#[50]⟩ : ByteArray)] : List ByteArray)) (by decide) c1
      rw [e2]
      simp only [Option.bind_some]
      rw [if_pos (by omega), w64 (x := j + 1) (by omega) (by omega)]
      have hss : s.size ≤ 13 := by
        simp only [List.mem_cons, List.not_mem_nil, or_false] at hm
        rcases hm with rfl | rfl <;> decide
      exact ih k _ _ _ _ (by omega) (by omega) (by simp) (by simp; omega) (sized_append 13 hsz (sized_one 13 (hs _ (rdOf_mem _ _ _ h0 (by omega))) hss)) c2 (by omega)
    · rw [if_neg ht, w64 (x := j + 1) (by omega) (by omega)]
      exact ih k _ _ _ _ (by omega) (by omega) hl (by omega) hsz c1 (by omega)
theorem l2Draw_ok (b : List Int) (i h : Int) (k : Nat) (hk : 5 < k) (hc : CurOk b i) : ∃ r i' h', spec_l2Draw.f k b i h = some (r, i', h') ∧ 1 ≤ r.length ∧ r.length ≤ 4 ∧ SizedL 13 r ∧ CurOk b i' := by
  unfold spec_l2Draw.f
  obtain ⟨s, i2, h2, e2, hm, c2⟩ := l1Str_ok b i h (([(⟨#[97]⟩ : ByteArray), (⟨#[98]⟩ : ByteArray), (⟨#[99]⟩ : ByteArray)] : List ByteArray)) (by decide) hc
  have hss : s.size ≤ 13 := by
    simp only [List.mem_cons, List.not_mem_nil, or_false] at hm
    rcases hm with rfl | rfl | rfl <;> decide
  rw [e2]
  simp only [Option.bind_some]
  exact l2Draw_l b _ (by decide) (by
    intro s hs
    simp only [List.mem_cons, List.not_mem_nil, or_false] at hs
    rcases hs with rfl | rfl | rfl <;> decide) 3 k _ 0 _ _ (by omega) (by decide) (by simp) (by simp) (sized_one 13 (by decide) hss) c2 (by omega)

/-! ### L1Names -/
theorem l1Names_ok (b : List Int) (i h : Int) (hc : CurOk b i) : ∃ s i' h', spec_l1Names.f b i h = some (s, i', h') ∧ s.size ≤ 13 ∧ CurOk b i' := by
  unfold spec_l1Names.f
  obtain ⟨s, i2, h2, e2, hm, c2⟩ := l1Str_sz b i h (([(⟨#[97, 112, 112]⟩ : ByteArray), (⟨#[104, 111, 115, 116]⟩ : ByteArray), (⟨#[115, 101, 118]⟩ : ByteArray), (⟨#[122, 111, 110, 101]⟩ : ByteArray)] : List ByteArray)) (by decide) (by decide) hc
  rw [e2]
  exact ⟨_, _, _, rfl, hm, c2⟩

/-! ### L1AnyName -/
theorem l1AnyName_ok (b : List Int) (i h : Int) (hc : CurOk b i) : ∃ s i' h', spec_l1AnyName.f b i h = some (s, i', h') ∧ s.size ≤ 13 ∧ CurOk b i' := by
  unfold spec_l1AnyName.f
  obtain ⟨t, i1, h1, e1, c1⟩ := l1Once_ok b i h 2 hc
  rw [e1]
  simp only [Option.bind_some]
  by_cases ht : t = true
  · rw [if_pos ht]
    obtain ⟨s, i2, h2, e2, hm, c2⟩ := l1Names_ok b i1 h1 c1
    rw [e2]
    exact ⟨_, _, _, rfl, hm, c2⟩
  · rw [if_neg ht]
    obtain ⟨s, i2, h2, e2, hm, c2⟩ := l1Str_sz b i1 h1 (([(⟨#[]⟩ : ByteArray), (⟨#[65]⟩ : ByteArray), (⟨#[110, 105, 110, 101, 99, 104, 97, 114, 115]⟩ : ByteArray), (⟨#[101, 105, 103, 104, 116, 97, 98, 99]⟩ : ByteArray), (⟨#[97, 32, 98]⟩ : ByteArray), (⟨#[97, 49]⟩ : ByteArray)] : List ByteArray)) (by decide) (by decide) c1
    rw [e2]
    exact ⟨_, _, _, rfl, hm, c2⟩

/-! ### L1Plain -/
theorem l1Plain_ok (b : List Int) (i h : Int) (hc : CurOk b i) : ∃ s i' h', spec_l1Plain.f b i h = some (s, i', h') ∧ s.size ≤ 13 ∧ CurOk b i' := by
  unfold spec_l1Plain.f
  obtain ⟨s, i2, h2, e2, hm, c2⟩ := l1Str_sz b i h (([(⟨#[97]⟩ : ByteArray), (⟨#[98]⟩ : ByteArray), (⟨#[120, 32, 121]⟩ : ByteArray), (⟨#[]⟩ : ByteArray), (⟨#[99, 114, 105, 116]⟩ : ByteArray), (⟨#[125, 45]⟩ : ByteArray)] : List ByteArray)) (by decide) (by decide) hc
  rw [e2]
  exact ⟨_, _, _, rfl, hm, c2⟩

/-! ### L1AnyPlain -/
theorem l1AnyPlain_ok (b : List Int) (i h : Int) (hc : CurOk b i) : ∃ s i' h', spec_l1AnyPlain.f b i h = some (s, i', h') ∧ s.size ≤ 13 ∧ CurOk b i' := by
  unfold spec_l1AnyPlain.f
  obtain ⟨t, i1, h1, e1, c1⟩ := l1Once_ok b i h 2 hc
  rw [e1]
  simp only [Option.bind_some]
  by_cases ht : t = true
  · rw [if_pos ht]
    obtain ⟨s, i2, h2, e2, hm, c2⟩ := l1Plain_ok b i1 h1 c1
    rw [e2]
    exact ⟨_, _, _, rfl, hm, c2⟩
  · rw [if_neg ht]
    obtain ⟨s, i2, h2, e2, hm, c2⟩ := l1Str_sz b i1 h1 (([(⟨#[34]⟩ : ByteArray), (⟨#[92]⟩ : ByteArray), (⟨#[127]⟩ : ByteArray), (⟨#[31]⟩ : ByteArray), (⟨#[116, 119, 101, 108, 118, 101, 32, 98, 121, 116, 101, 115]⟩ : ByteArray), (⟨#[116, 104, 105, 114, 116, 101, 101, 110, 98, 121, 116, 101, 115]⟩ : ByteArray), (⟨#[126]⟩ : ByteArray), (⟨#[125]⟩ : ByteArray), (⟨#[44, 32, 98, 61]⟩ : ByteArray), (⟨#[125, 32, 49, 45, 50]⟩ : ByteArray)] : List ByteArray)) (by decide) (by decide) c1
    rw [e2]
    exact ⟨_, _, _, rfl, hm, c2⟩

/-! ### L2Any -/
theorem l2Any_ok (b : List Int) (i h : Int) (k : Nat) (hk : 5 < k) (hc : CurOk b i) : ∃ r i' h', spec_l2Any.f k b i h = some (r, i', h') ∧ r.length ≤ 8 ∧ SizedL 13 r ∧ CurOk b i' := by
  unfold spec_l2Any.f
  obtain ⟨l, i1, h1, e1, hl1, hl4, hs, c1⟩ := l2Draw_ok b i h k hk hc
  obtain ⟨x, i2, h2, e2, hx0, hx1, c2⟩ := l1Below_ok b i1 h1 10 c1
  rw [e1]
  simp only [Option.bind_some]
  rw [e2]
  simp only [Option.bind_some]
  by_cases x0 : x = 0
  · rw [if_pos x0]
    obtain ⟨s, i3, h3, e3, hs3, c3⟩ := l1AnyName_ok b i2 h2 c2
    obtain ⟨t, i4, h4, e4, hs4, c4⟩ := l1AnyPlain_ok b i3 h3 c3
    rw [e3]
    simp only [Option.bind_some]
    rw [e4]
    simp only [Option.bind_some]
    rw [if_pos (by omega)]
    exact ⟨_, _, _, rfl, by simp; omega, sized_append 13 hs (sized_one 13 hs3 hs4), c4⟩
  rw [if_neg x0]
  by_cases x1 : x = 1
  · rw [if_pos x1, if_pos (by simp; omega)]
    exact ⟨_, _, _, rfl, by simp; omega, sized_append 13 (sized_one 13 (by decide) (by decide)) hs, c2⟩
  rw [if_neg x1]
  by_cases x2 : x = 2
  · rw [if_pos x2, if_pos (by omega), if_pos (by omega)]
    have hm := hs _ (rd_mem l 0 (by omega) (by omega))
    exact ⟨_, _, _, rfl, by simp; omega, sized_append 13 hs (sized_one 13 hm.1 hm.2), c2⟩
  rw [if_neg x2]
  by_cases x3 : x = 3
  · rw [if_pos x3, if_pos (by simp; omega)]
    refine ⟨_, _, _, rfl, by simp; omega, sized_append 13 hs ?_, c2⟩
    intro z hz
    simp only [List.mem_cons, List.not_mem_nil, or_false] at hz
    rcases hz with rfl | rfl | rfl | rfl <;> exact ⟨by decide, by decide⟩
  rw [if_neg x3]
  by_cases x4 : x = 4
  · rw [if_pos x4]
    obtain ⟨t, i4, h4, e4, hs4, c4⟩ := l1AnyPlain_ok b i2 h2 c2
    have hm := hs _ (rd_mem l 0 (by omega) (by omega))
    rw [e4]
    simp only [Option.bind_some]
    rw [if_pos (by omega)]
    exact ⟨_, _, _, rfl, by simp; omega, sized_set 13 hs _ hm.1 hs4, c4⟩
  rw [if_neg x4]
  by_cases x5 : x = 5
  · rw [if_pos x5]
    exact ⟨_, _, _, rfl, by simp, fun z hz => by simp at hz, c2⟩
  rw [if_neg x5]
  exact ⟨_, _, _, rfl, by omega, hs, c2⟩

/-! ### DrawSetLess -/
theorem DrawSetLess_ok (b : List Int) (hb : b.length ≤ 140737488351232) (k : Nat) (hk : b.length + 8 < k) : ∃ x y, spec_DrawSetLess.f k b = some (x, y) ∧ x.length ≤ 8 ∧ y.length ≤ 8 := by
  unfold spec_DrawSetLess.f
  obtain ⟨h, e, c⟩ := l1New_ok b hb k (by omega)
  rw [e]
  simp only [Option.bind_some]
  obtain ⟨x, i1, h1, e1, hx, _, c1⟩ := l2Any_ok b 0 h k (by omega) c
  rw [e1]
  simp only [Option.bind_some]
  obtain ⟨y, i2, h2, e2, hy, _, c2⟩ := l2Any_ok b i1 h1 k (by omega) c1
  rw [e2]
  exact ⟨_, _, rfl, hx, hy⟩

/-! ### SetLess -/
def less2 (x y : S81) : Option Bool :=
  if x.f0.toList = y.f0.toList then (if x.f1.toList = y.f1.toList then none else some (Op.bytesLess x.f1.toList y.f1.toList)) else some (Op.bytesLess x.f0.toList y.f0.toList)
def setLess : List S81 → List S81 → Bool
  | [], [] => false
  | [], _ :: _ => true
  | _ :: _, [] => false
  | x :: a, y :: b => match less2 x y with
    | some r => r
    | none => setLess a b
theorem spec_SetLess_l (a b : List S81) (ha : a.length ≤ 140737488351232) (d : Nat) : ∀ (k : Nat) (i : Int), 0 ≤ i → i + d = (a.length : Int) → i ≤ (b.length : Int) → 2 * d + 2 < k → spec_SetLess.l0 k a b i = some (setLess (a.drop i.toNat) (b.drop i.toNat)) := by
  induction d with
  | zero =>
    intro k i h0 hd hb hk
    obtain ⟨k, rfl⟩ : ∃ m, k = m + 2 := ⟨k - 2, by omega⟩
    simp only [spec_SetLess.l0, spec_SetLess.j1]
    rw [if_neg (by omega), if_neg (by simp), List.drop_eq_nil_of_le (by omega)]
    cases e : b.drop i.toNat with
    | nil =>
      have := List.drop_eq_nil_iff.1 e
      rw [decide_eq_false (by omega)]; rfl
    | cons y b' =>
      have : (b.drop i.toNat).length = b'.length + 1 := by rw [e]; simp
      rw [List.length_drop] at this
      rw [decide_eq_true (by omega)]; rfl
  | succ d ih =>
    intro k i h0 hd hb hk
    obtain ⟨k, rfl⟩ : ∃ m, k = m + 2 := ⟨k - 2, by omega⟩
    simp only [spec_SetLess.l0, spec_SetLess.j1]
    rw [if_pos (by omega), drop_cons z81 a i h0 (by omega)]
    by_cases hi : i < (b.length : Int)
    · rw [if_pos (decide_eq_true hi), if_pos h0, if_pos (by omega), if_pos hi, drop_cons z81 b i h0 hi]
      show (if (a.getD i.toNat z81).f0.toList = (b.getD i.toNat z81).f0.toList then (if (a.getD i.toNat z81).f1.toList = (b.getD i.toNat z81).f1.toList then _ else _) else _) = _
      simp only [setLess, less2]
      by_cases h1 : (a.getD i.toNat z81).f0.toList = (b.getD i.toNat z81).f0.toList
      · rw [if_pos h1, if_pos h1]
        by_cases h2 : (a.getD i.toNat z81).f1.toList = (b.getD i.toNat z81).f1.toList
        · rw [if_pos h2, if_pos h2, w64 (by omega) (by omega)]
          exact ih k (i + 1) (by omega) (by omega) (by omega) (by omega)
        · rw [if_neg h2, if_neg h2]; rfl
      · rw [if_neg h1, if_neg h1]; rfl
    · rw [if_neg (by simpa using hi), decide_eq_false (by omega), show b.drop i.toNat = [] from List.drop_eq_nil_of_le (by omega)]
      rfl
theorem impl_SetLess_l (a b : List S81) (ha : a.length ≤ 140737488351232) (d : Nat) : ∀ (k : Nat) (i : Int), 0 ≤ i → i + d = (a.length : Int) → i ≤ (b.length : Int) → 2 * d + 2 < k → impl_SetLess.l0 k a b i = some (setLess (a.drop i.toNat) (b.drop i.toNat)) := by
  induction d with
  | zero =>
    intro k i h0 hd hb hk
    obtain ⟨k, rfl⟩ : ∃ m, k = m + 2 := ⟨k - 2, by omega⟩
    simp only [impl_SetLess.l0, impl_SetLess.j1]
    rw [if_neg (by omega), if_neg (by simp), List.drop_eq_nil_of_le (by omega)]
    cases e : b.drop i.toNat with
    | nil =>
      have := List.drop_eq_nil_iff.1 e
      rw [decide_eq_false (by omega)]; rfl
    | cons y b' =>
      have : (b.drop i.toNat).length = b'.length + 1 := by rw [e]; simp
      rw [List.length_drop] at this
      rw [decide_eq_true (by omega)]; rfl
  | succ d ih =>
    intro k i h0 hd hb hk
    obtain ⟨k, rfl⟩ : ∃ m, k = m + 2 := ⟨k - 2, by omega⟩
    simp only [impl_SetLess.l0, impl_SetLess.j1]
    rw [if_pos (by omega), drop_cons z81 a i h0 (by omega)]
    by_cases hi : i < (b.length : Int)
    · rw [if_pos (decide_eq_true hi), if_pos h0, if_pos (by omega), if_pos hi, drop_cons z81 b i h0 hi]
      show (if (a.getD i.toNat z81).f0.toList = (b.getD i.toNat z81).f0.toList then (if (a.getD i.toNat z81).f1.toList = (b.getD i.toNat z81).f1.toList then _ else _) else _) = _
      simp only [setLess, less2]
      by_cases h1 : (a.getD i.toNat z81).f0.toList = (b.getD i.toNat z81).f0.toList
      · rw [if_pos h1, if_pos h1]
        by_cases h2 : (a.getD i.toNat z81).f1.toList = (b.getD i.toNat z81).f1.toList
        · rw [if_pos h2, if_pos h2, w64 (by omega) (by omega)]
          exact ih k (i + 1) (by omega) (by omega) (by omega) (by omega)
        · rw [if_neg h2, if_neg h2]; rfl
      · rw [if_neg h1, if_neg h1]; rfl
    · rw [if_neg (by simpa using hi), decide_eq_false (by omega), show b.drop i.toNat = [] from List.drop_eq_nil_of_le (by omega)]
      rfl
theorem spec_SetLess_eq (a b : List S81) (ha : a.length ≤ 140737488351232) (k : Nat) (hk : 2 * a.length + 2 < k) : spec_SetLess.f k a b = some (setLess a b) :=
  spec_SetLess_l a b ha a.length k 0 (by omega) (by omega) (by omega) hk
theorem impl_SetLess_eq (a b : List S81) (ha : a.length ≤ 140737488351232) (k : Nat) (hk : 2 * a.length + 2 < k) : impl_SetLess.f k a b = some (setLess a b) :=
  impl_SetLess_l a b ha a.length k 0 (by omega) (by omega) (by omega) hk

/-! ### SameSet -/
def labEq (x y : S81) : Bool := (x.f0.toList == y.f0.toList) && (x.f1.toList == y.f1.toList)
def sameB (a b : List S81) (i : Int) : Bool := labEq (rd_T81 a i) (rd_T81 b i)
def sameSet (a b : List S81) : Bool := decide (a.length = b.length) && allFrom (sameB a b) a.length 0
theorem same_round (a b : List S81) (i : Int) (x : Option Bool) :
    (if (!((((rd_T81 a i).f0).toList) == (((rd_T81 b i).f0).toList)) || (!((((rd_T81 a i).f1).toList) == (((rd_T81 b i).f1).toList)))) = true then (some false) else x) = if sameB a b i = true then x else some false := by
  unfold sameB labEq
  cases ((rd_T81 a i).f0.toList == (rd_T81 b i).f0.toList) <;> cases ((rd_T81 a i).f1.toList == (rd_T81 b i).f1.toList) <;> simp
theorem impl_SameSet_eq (a b : List S81) (ha : a.length ≤ 140737488351232) (k : Nat) (hk : a.length < k) : impl_SameSet.f k a b = some (sameSet a b) := by
  unfold impl_SameSet.f sameSet
  by_cases h : a.length = b.length
  · rw [if_pos (by omega), decide_eq_true h, Bool.true_and]
    rw [all_loop (n := a.length) ha 0 (sameB a b) (fun k i => impl_SameSet.l0 k a b a.length i) (some true) ?_ ?_ a.length k 0 (by omega) (by omega) (by omega) (by omega), bool_of_if]
    · intro k i _ h0 h1
      simp only [impl_SameSet.l0]
      rw [if_pos h1, if_pos h0, if_pos h1, if_pos (by omega), same_round]
    · intro k _
      simp only [impl_SameSet.l0]
      rw [if_neg (by omega)]
  · rw [if_neg (by omega), decide_eq_false h]; rfl

/-! ### SetLessLaws -/
theorem less2_self (x : S81) : less2 x x = none := by simp [less2]
theorem setLess_irrefl : ∀ a : List S81, setLess a a = false
  | [] => rfl
  | x :: a => by simp only [setLess, less2_self]; exact setLess_irrefl a
theorem less2_asymm (x y : S81) (h : less2 x y = some true) : less2 y x = some false := by
  unfold less2 at h ⊢
  by_cases h1 : x.f0.toList = y.f0.toList
  · rw [if_pos h1] at h
    rw [if_pos h1.symm]
    by_cases h2 : x.f1.toList = y.f1.toList
    · rw [if_pos h2] at h; cases h
    · rw [if_neg h2] at h
      rw [if_neg (fun e => h2 e.symm)]
      rw [M3.bl_asymm _ _ (Option.some.inj h)]
  · rw [if_neg h1] at h
    rw [if_neg (fun e => h1 e.symm)]
    rw [M3.bl_asymm _ _ (Option.some.inj h)]
theorem less2_none (x y : S81) : less2 x y = none ↔ labEq x y = true := by
  unfold less2 labEq
  by_cases h1 : x.f0.toList = y.f0.toList <;> by_cases h2 : x.f1.toList = y.f1.toList <;> simp [h1, h2]
theorem less2_total (x y : S81) (h : less2 x y = some false) : less2 y x = some true := by
  unfold less2 at h ⊢
  by_cases h1 : x.f0.toList = y.f0.toList
  · rw [if_pos h1] at h
    rw [if_pos h1.symm]
    by_cases h2 : x.f1.toList = y.f1.toList
    · rw [if_pos h2] at h; cases h
    · rw [if_neg h2] at h
      rw [if_neg (fun e => h2 e.symm)]
      rcases M3.bl_total _ _ h2 with h3 | h3
      · rw [h3] at h; cases h
      · rw [h3]
  · rw [if_neg h1] at h
    rw [if_neg (fun e => h1 e.symm)]
    rcases M3.bl_total _ _ h1 with h3 | h3
    · rw [h3] at h; cases h
    · rw [h3]
theorem labEq_comm (x y : S81) : labEq x y = labEq y x := by
  unfold labEq
  rw [Bool.eq_iff_iff]
  simp only [Bool.and_eq_true, beq_iff_eq]
  exact ⟨fun h => ⟨h.1.symm, h.2.symm⟩, fun h => ⟨h.1.symm, h.2.symm⟩⟩
def sameRec : List S81 → List S81 → Bool
  | [], [] => true
  | x :: a, y :: b => labEq x y && sameRec a b
  | _, _ => false
theorem allFrom_shift (p q : Int → Bool) : ∀ (d : Nat) (i j : Int), (∀ n : Nat, n < d → p (i + n) = q (j + n)) → allFrom p d i = allFrom q d j
  | 0, _, _, _ => rfl
  | d + 1, i, j, h => by
    simp only [allFrom]
    have h0 := h 0 (by omega)
    simp only [Int.natCast_zero, Int.add_zero] at h0
    rw [h0, allFrom_shift p q d (i + 1) (j + 1) (fun n hn => by
      have := h (n + 1) (by omega)
      have e1 : i + ((n + 1 : Nat) : Int) = i + 1 + n := by omega
      have e2 : j + ((n + 1 : Nat) : Int) = j + 1 + n := by omega
      rw [e1, e2] at this
      exact this)]
theorem sameSet_rec : ∀ a b : List S81, sameSet a b = sameRec a b
  | [], [] => rfl
  | [], _ :: _ => by simp [sameSet, sameRec]
  | _ :: _, [] => by simp [sameSet, sameRec]
  | x :: a, y :: b => by
    have ih := sameSet_rec a b
    unfold sameSet at ih ⊢
    simp only [sameRec]
    rw [← ih]
    simp only [List.length_cons, Nat.add_right_cancel_iff, allFrom]
    have e0 : sameB (x :: a) (y :: b) 0 = labEq x y := rfl
    have e1 : allFrom (sameB (x :: a) (y :: b)) a.length (0 + 1) = allFrom (sameB a b) a.length 0 := by
      apply allFrom_shift
      intro n _
      unfold sameB rd_T81
      have t1 : ((0 : Int) + 1 + n).toNat = n + 1 := by omega
      have t2 : ((0 : Int) + n).toNat = n := by omega
      rw [t1, t2]
      simp
    rw [e0, e1]
    cases labEq x y <;> cases decide (a.length = b.length) <;> simp
theorem sameSet_refl (a : List S81) : sameSet a a = true := by
  rw [sameSet_rec]
  induction a with
  | nil => rfl
  | cons x a ih => simp [sameRec, labEq, ih]
theorem setLess_asymm : ∀ a b : List S81, setLess a b = true → setLess b a = false
  | [], [], _ => rfl
  | [], _ :: _, _ => rfl
  | _ :: _, [], h => by simp [setLess] at h
  | x :: a, y :: b, h => by
    simp only [setLess] at h ⊢
    cases e : less2 x y with
    | some r =>
      rw [e] at h
      have hr : r = true := h
      subst hr
      rw [less2_asymm x y e]
    | none =>
      rw [e] at h
      have e' : less2 y x = none := by rw [less2_none, labEq_comm, ← less2_none]; exact e
      rw [e']
      exact setLess_asymm a b h
theorem setLess_same : ∀ a b : List S81, setLess a b = true → sameSet a b = false
  | [], [], h => by simp [setLess] at h
  | [], _ :: _, _ => by rw [sameSet_rec]; rfl
  | _ :: _, [], h => by simp [setLess] at h
  | x :: a, y :: b, h => by
    rw [sameSet_rec]
    simp only [sameRec]
    simp only [setLess] at h
    cases e : less2 x y with
    | some r =>
      have : labEq x y = false := by
        rw [Bool.eq_false_iff]
        intro h2
        rw [← less2_none, e] at h2
        cases h2
      rw [this]; rfl
    | none =>
      rw [e] at h
      have := setLess_same a b h
      rw [sameSet_rec] at this
      rw [this]
      simp
theorem setLess_total : ∀ a b : List S81, sameSet a b = false → setLess a b = false → setLess b a = true
  | [], [], h, _ => by rw [sameSet_rec] at h; simp [sameRec] at h
  | [], _ :: _, _, h => by simp [setLess] at h
  | _ :: _, [], _, _ => rfl
  | x :: a, y :: b, h, h' => by
    rw [sameSet_rec] at h
    simp only [sameRec] at h
    simp only [setLess] at h' ⊢
    cases e : less2 x y with
    | some r =>
      rw [e] at h'
      have hr : r = false := h'
      subst hr
      rw [less2_total x y e]
    | none =>
      rw [e] at h'
      have e' : less2 y x = none := by rw [less2_none, labEq_comm, ← less2_none]; exact e
      rw [e']
      have hl : labEq x y = true := (less2_none x y).mp e
      rw [hl, Bool.true_and] at h
      exact setLess_total a b (by rw [sameSet_rec]; exact h) h'

theorem FnSetOrder : laws_FnSetOrder.Pure := by
  intro b hb _ _
  obtain ⟨m, hm⟩ : ∃ m : Nat, 4194304 < m := ⟨4194305, by omega⟩
  refine ⟨m, ?_⟩
  unfold laws_FnSetOrder.f laws_big.f
  simp only [Option.bind_some]
  by_cases hz : (b.length : Int) > 1048576
  · rw [if_pos (decide_eq_true hz)]
  · rw [if_neg (by simpa using hz)]
    obtain ⟨x, y, exy, hx, hy⟩ := DrawSetLess_ok b (by omega) m (by omega)
    rw [exy]
    simp only [Option.bind_some]
    rw [impl_SetLess_eq x y (by omega) m (by omega), spec_SetLess_eq x y (by omega) m (by omega), impl_SetLess_eq y x (by omega) m (by omega), impl_SetLess_eq x x (by omega) m (by omega), impl_SameSet_eq x x (by omega) m (by omega), impl_SameSet_eq x y (by omega) m (by omega), setLess_irrefl, sameSet_refl]
    simp only [Option.bind_some, beq_self_eq_true, if_true, Bool.false_eq_true, if_false]
    cases hl : setLess x y
    · simp only [Bool.false_eq_true, if_false]
      cases hs : sameSet x y
      · rw [setLess_total x y hs hl]; rfl
      · rfl
    · rw [setLess_asymm x y hl, setLess_same x y hl]; rfl

end Go.Proofs.Ytglefglknlcojaa.Pure
