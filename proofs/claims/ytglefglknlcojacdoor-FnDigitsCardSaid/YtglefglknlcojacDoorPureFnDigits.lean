/- A number's text is read back as that number, just where it has at most five digits and no sign; what is read as a number is that number's text: for every draw. -/
import Derived.Test.YtglefglknlcojacDoorPFnDigitsx3
import Derived.Test.YtglefglknlcojacDoorM0
import Derived.Test.YtglefglknlcojacDoorM1
import Derived.Test.YtglefglknlcojacDoorM2
import Derived.Test.YtglefglknlcojacDoorM3
set_option linter.unusedVariables false
set_option linter.unusedSimpArgs false
namespace Go.Proofs.YtglefglknlcojacDoor.Pure
open Go.RowKit Go.Proofs.YtglefglknlcojacDoor.PFnDigits Go.Proofs.YtglefglknlcojacDoorW.PrintWords Go.Proofs.YtglefglknlcojacDoorW.PrintLast Go.Proofs.YtglefglknlcojacDoor.M0 Go.Proofs.YtglefglknlcojacDoor.M1 Go.Proofs.YtglefglknlcojacDoor.M2 Go.Proofs.YtglefglknlcojacDoor.M3

/-! ### NumText -/
/-- The digits of v, none for 0. -/
def Dl (v : Nat) : List UInt8 := if v = 0 then [] else Go.Lib.decDigits v
theorem Dl_step (v : Nat) (h : v ≠ 0) : Dl v = Dl (v / 10) ++ [UInt8.ofNat (48 + v % 10)] := by
  unfold Dl
  rw [if_neg h]
  by_cases h1 : v < 10
  · rw [Go.Lib.decDigits_one h1, if_pos (by omega), Nat.mod_eq_of_lt h1]; rfl
  · rw [if_neg (by omega), Go.Lib.decDigits, dif_neg h1]
theorem nd_le : ∀ (m v : Nat), v < 10 ^ (m + 1) → Go.Lib.nDigits v ≤ m + 1
  | 0, v, h => by rw [Go.Lib.nDigits_small (by simpa using h)]; omega
  | m + 1, v, h => by
    by_cases h1 : v < 10
    · rw [Go.Lib.nDigits_small h1]; omega
    · rw [Nat.pow_succ] at h
      rw [Go.Lib.nDigits_big h1]
      have := nd_le m (v / 10) (by omega)
      omega
theorem strOfD (d : Nat) (hd : d < 10) (s : List UInt8) : strOfNums [(48 + (d : Int)) % 256] ++ (⟨s.toArray⟩ : ByteArray) = ⟨(UInt8.ofNat (48 + d) :: s).toArray⟩ := by
  have e : ((48 + (d : Int)) % 256).toNat = 48 + d := by omega
  unfold strOfNums
  rw [List.map_cons, List.map_nil, e, ByteArray.mk_append_mk]
  rfl
theorem numLoop (d : Nat) : ∀ (k v : Nat) (x0 x : Int) (s : List UInt8), x.natAbs = v → v < 10 ^ d → v ≤ 9223372036854775808 → s.length + d ≤ 1000 → d < k →
    spec_NumText.l0 k x0 ⟨s.toArray⟩ x = some ⟨((if x0 < 0 then [45] else []) ++ (Dl v ++ s)).toArray⟩ := by
  induction d with
  | zero =>
    intro k v x0 x s hx h1 _ hs hk
    obtain ⟨k, rfl⟩ : ∃ m, k = m + 1 := ⟨k - 1, by omega⟩
    have hv : v = 0 := by omega
    subst hv
    have hx0 : x = 0 := by omega
    simp only [spec_NumText.l0]
    rw [if_pos hx0]
    have hz : (⟨s.toArray⟩ : ByteArray).size = s.length := by simp [ByteArray.size]
    by_cases hn : x0 < 0
    · rw [if_pos hn, if_pos hn, if_pos (by rw [hz]; omega)]
      have e : (⟨#[45]⟩ : ByteArray) ++ (⟨s.toArray⟩ : ByteArray) = ⟨([45] ++ s).toArray⟩ := ByteArray.mk_append_mk [45] s
      rw [e]; simp [Dl]
    · rw [if_neg hn, if_neg hn]; simp [Dl]
  | succ d ih =>
    intro k v x0 x s hx h1 h2 hs hk
    have hz : (⟨s.toArray⟩ : ByteArray).size = s.length := by simp [ByteArray.size]
    by_cases hv : v = 0
    · obtain ⟨k, rfl⟩ : ∃ m, k = m + 1 := ⟨k - 1, by omega⟩
      subst hv
      have hx0 : x = 0 := by omega
      simp only [spec_NumText.l0]
      rw [if_pos hx0]
      by_cases hn : x0 < 0
      · rw [if_pos hn, if_pos hn, if_pos (by rw [hz]; omega)]
        have e : (⟨#[45]⟩ : ByteArray) ++ (⟨s.toArray⟩ : ByteArray) = ⟨([45] ++ s).toArray⟩ := ByteArray.mk_append_mk [45] s
        rw [e]; simp [Dl]
      · rw [if_neg hn, if_neg hn]; simp [Dl]
    · obtain ⟨k, rfl⟩ : ∃ m, k = m + 1 := ⟨k - 1, by omega⟩
      have hx0 : ¬ x = 0 := by omega
      have hp : v < 10 ^ d * 10 := by rw [← Nat.pow_succ]; exact h1
      have one : ∀ c : Int, (strOfNums [c]).size = 1 := fun c => by simp [strOfNums, ByteArray.size]
      have hd10 : v % 10 < 10 := Nat.mod_lt _ (by omega)
      have key : ∀ (y : Int), y.natAbs = v / 10 → spec_NumText.l0 k x0 (strOfNums [(48 + ((v % 10 : Nat) : Int)) % 256] ++ ⟨s.toArray⟩) y = some ⟨((if x0 < 0 then [45] else []) ++ (Dl v ++ s)).toArray⟩ := by
        intro y hy
        rw [strOfD _ hd10, ih k (v / 10) x0 y _ hy (by omega) (by omega) (by simp; omega) (by omega), Dl_step v hv]
        simp
      simp only [spec_NumText.l0]
      rw [if_neg hx0]
      simp only [Option.bind_some]
      rcases Int.lt_or_le x 0 with hneg | hpos
      · obtain ⟨u, rfl⟩ : ∃ u : Nat, x = -(u : Int) := ⟨x.natAbs, by omega⟩
        have hu : u = v := by omega
        subst hu
        have et : Int.tmod (-(u : Int)) 10 = -(((u % 10 : Nat)) : Int) := by
          rw [Int.neg_tmod, Int.tmod_eq_emod_of_nonneg (by omega)]; omega
        have ed : Int.tdiv (-(u : Int)) 10 = -(((u / 10 : Nat)) : Int) := by
          rw [Int.neg_tdiv, Int.tdiv_eq_ediv_of_nonneg (by omega)]; omega
        rw [et, ed]
        by_cases hm : -(((u % 10 : Nat)) : Int) < 0
        · rw [if_pos hm, if_pos (by rw [one, hz]; omega), w64 (x := -(-((u % 10 : Nat) : Int))) (by omega) (by omega), Int.neg_neg, w64 (x := 48 + ((u % 10 : Nat) : Int)) (by omega) (by omega), w64 (x := -((u / 10 : Nat) : Int)) (by omega) (by omega)]
          exact key _ (by omega)
        · have h0 : ((u % 10 : Nat) : Int) = 0 := by omega
          rw [if_neg hm, if_pos (by rw [one, hz]; omega), w64 (x := -((u / 10 : Nat) : Int)) (by omega) (by omega)]
          have := key (-((u / 10 : Nat) : Int)) (by omega)
          rw [h0] at this ⊢
          have e0 : wrap64 (48 + -(0 : Int)) = 48 + 0 := (w64 (by omega) (by omega)).trans (by omega)
          rw [e0]
          exact this
      · obtain ⟨u, rfl⟩ : ∃ u : Nat, x = (u : Int) := ⟨x.natAbs, by omega⟩
        have hu : u = v := by omega
        subst hu
        have et : Int.tmod (u : Int) 10 = ((u % 10 : Nat) : Int) := by
          rw [Int.tmod_eq_emod_of_nonneg (by omega)]; omega
        have ed : Int.tdiv (u : Int) 10 = ((u / 10 : Nat) : Int) := by
          rw [Int.tdiv_eq_ediv_of_nonneg (by omega)]; omega
        rw [et, ed, if_neg (by omega), if_pos (by rw [one, hz]; omega), w64 (x := 48 + ((u % 10 : Nat) : Int)) (by omega) (by omega), w64 (x := ((u / 10 : Nat) : Int)) (by omega) (by omega)]
        exact key _ (by omega)
theorem spec_NumText_eq (n : Int) (h : (Lit.int .i64 n).wf = true) (k : Nat) (hk : 30 < k) : spec_NumText.f k n = some (Foreign.itoaBytes n) := by
  obtain ⟨h0, h1⟩ : -9223372036854775808 ≤ n ∧ n ≤ 9223372036854775807 := by
    have := h
    simp [Lit.wf, IntKind.min, IntKind.max, IntKind.signed, IntKind.bits] at this
    omega
  unfold spec_NumText.f Foreign.itoaBytes Go.Lib.itoa
  by_cases hz : n = 0
  · subst hz
    rw [if_pos rfl, if_neg (by omega)]
    have e : Go.Lib.decDigits (0 : Int).toNat = [48] := Go.Lib.decDigits_one (by decide)
    rw [e]
  · rw [if_neg hz]
    have := numLoop 20 k n.natAbs n n [] rfl (by omega) (by omega) (by decide) (by omega)
    have ea : (⟨([] : List UInt8).toArray⟩ : ByteArray) = (⟨#[]⟩ : ByteArray) := rfl
    rw [ea] at this
    rw [this]
    have e2 : Dl n.natAbs = Go.Lib.decDigits n.natAbs := by unfold Dl; rw [if_neg (by omega)]
    rw [e2]
    by_cases hn : n < 0
    · rw [if_pos hn, if_pos hn]; simp
    · rw [if_neg hn, if_neg hn]
      have e3 : n.natAbs = n.toNat := by omega
      rw [e3]; simp
theorem impl_NumText_eq (n : Int) (h : (Lit.int .i64 n).wf = true) : impl_NumText.f n = some (Foreign.itoaBytes n) := by
  obtain ⟨h0, h1⟩ : -9223372036854775808 ≤ n ∧ n ≤ 9223372036854775807 := by
    have := h
    simp [Lit.wf, IntKind.min, IntKind.max, IntKind.signed, IntKind.bits] at this
    omega
  unfold impl_NumText.f strconv_Itoa.f Foreign.itoaOf
  rw [if_pos ⟨h0, h1⟩]; rfl
theorem itoa_le (n : Int) (h : (Lit.int .i64 n).wf = true) : (Foreign.itoaBytes n).size ≤ 30 := by
  obtain ⟨h0, h1⟩ : -9223372036854775808 ≤ n ∧ n ≤ 9223372036854775807 := by
    have := h
    simp [Lit.wf, IntKind.min, IntKind.max, IntKind.signed, IntKind.bits] at this
    omega
  have e : (Foreign.itoaBytes n).size = (Go.Lib.itoa n).length := by unfold Foreign.itoaBytes; simp [ByteArray.size]
  rw [e]
  unfold Go.Lib.itoa
  by_cases hn : n < 0
  · rw [if_pos hn, List.length_cons, Go.Lib.decDigits_length]
    have := nd_le 19 n.natAbs (by omega)
    omega
  · rw [if_neg hn, Go.Lib.decDigits_length]
    have := nd_le 19 n.toNat (by omega)
    omega

/-! ### ParseNum -/
def pn : List UInt8 → Nat → Option Nat
  | [], n => some n
  | c :: l, n => if 48 ≤ c.toNat ∧ c.toNat ≤ 57 then pn l (10 * n + (c.toNat - 48)) else none
theorem decDigits_snoc (u d : Nat) (hu : 1 ≤ u) (hd : d < 10) : Go.Lib.decDigits (10 * u + d) = Go.Lib.decDigits u ++ [UInt8.ofNat (48 + d)] := by
  rw [Go.Lib.decDigits, dif_neg (by omega)]
  have e1 : (10 * u + d) / 10 = u := by omega
  have e2 : (10 * u + d) % 10 = d := by omega
  rw [e1, e2]
theorem pn_app : ∀ (l : List UInt8) (u v : Nat), 1 ≤ u → pn l u = some v → Go.Lib.decDigits v = Go.Lib.decDigits u ++ l
  | [], u, v, _, h => by simp only [pn, Option.some.injEq] at h; subst h; simp
  | c :: l, u, v, hu, h => by
    unfold pn at h
    by_cases hc : 48 ≤ c.toNat ∧ c.toNat ≤ 57
    · rw [if_pos hc] at h
      rw [pn_app l _ v (by omega) h, decDigits_snoc u _ hu (by omega)]
      have e : UInt8.ofNat (48 + (c.toNat - 48)) = c := by
        rw [show 48 + (c.toNat - 48) = c.toNat by omega]; simp
      rw [e]; simp
    · rw [if_neg hc] at h; cases h
theorem pn_lt : ∀ (l : List UInt8) (a u v : Nat), u < 10 ^ a → pn l u = some v → v < 10 ^ (a + l.length)
  | [], a, u, v, hu, h => by simp only [pn, Option.some.injEq] at h; subst h; simpa using hu
  | c :: l, a, u, v, hu, h => by
    unfold pn at h
    by_cases hc : 48 ≤ c.toNat ∧ c.toNat ≤ 57
    · rw [if_pos hc] at h
      have := pn_lt l (a + 1) _ v (by rw [Nat.pow_succ]; omega) h
      rw [List.length_cons]
      rw [show a + (l.length + 1) = a + 1 + l.length by omega]
      exact this
    · rw [if_neg hc] at h; cases h
/-- A numeral comes back just where it does not open with a needless 0. -/
theorem pn_back (c : UInt8) (l : List UInt8) (v : Nat) (h : pn (c :: l) 0 = some v) : Go.Lib.decDigits v = c :: l ↔ ¬ (l ≠ [] ∧ c.toNat = 48) := by
  unfold pn at h
  by_cases hc : 48 ≤ c.toNat ∧ c.toNat ≤ 57
  · rw [if_pos hc] at h
    by_cases h0 : c.toNat = 48
    · rw [h0] at h
      cases l with
      | nil =>
        simp only [pn, Option.some.injEq] at h
        subst h
        rw [Go.Lib.decDigits_one (by omega)]
        have e : UInt8.ofNat (48 + (10 * 0 + (48 - 48))) = c := by
          rw [show 48 + (10 * 0 + (48 - 48)) = c.toNat by omega]; simp
        rw [e]; simp
      | cons b l =>
        constructor
        · intro e
          exfalso
          have hl := pn_lt (b :: l) 0 _ v (by simp) h
          have hn := nd_le l.length v (by simpa using hl)
          rw [← Go.Lib.decDigits_length, e] at hn
          simp at hn
          omega
        · intro hh; exact absurd ⟨by simp, h0⟩ hh
    · have := pn_app l _ v (by omega) h
      rw [this, Go.Lib.decDigits_one (by omega)]
      have e : UInt8.ofNat (48 + (10 * 0 + (c.toNat - 48))) = c := by
        rw [show 48 + (10 * 0 + (c.toNat - 48)) = c.toNat by omega]; simp
      rw [e]
      exact ⟨fun _ hh => h0 hh.2, fun _ => rfl⟩
  · rw [if_neg hc] at h; cases h
theorem dlen (s : ByteArray) : s.data.toList.length = s.size := by rw [Array.length_toList]; rfl
theorem bt_get (s : ByteArray) (i : Nat) (h : i < s.size) : ∃ c, s.data.toList.drop i = c :: s.data.toList.drop (i + 1) ∧ bt s (i : Int) = (c.toNat : Int) := by
  have h' : i < s.data.toList.length := by rw [dlen]; exact h
  refine ⟨s.data.toList[i], List.drop_eq_getElem_cons h', ?_⟩
  unfold bt
  rw [dif_pos (by simpa using h)]
  simp [ByteArray.getElem_eq_getElem_data]
def ansOf (o : Option Nat) : Int × Bool := match o with
  | some v => ((v : Int), true)
  | none => (0, false)
def backOf (s : ByteArray) (o : Option Nat) : Int × Bool := match o with
  | some v => if Go.Lib.decDigits v = s.data.toList then ((v : Int), true) else (0, false)
  | none => (0, false)
theorem num_wf (u : Nat) (h : u < 100000000) : (Lit.int .i64 (u : Int)).wf = true := by
  simp [Lit.wf, IntKind.min, IntKind.max, IntKind.signed, IntKind.bits]; omega
theorem itoa_eq (s : ByteArray) (u : Nat) : ((Foreign.itoaBytes (u : Int)).toList = s.toList) ↔ Go.Lib.decDigits u = s.data.toList := by
  have e : Go.Lib.itoa (u : Int) = Go.Lib.decDigits u := by unfold Go.Lib.itoa; rw [if_neg (by omega)]; simp
  unfold Foreign.itoaBytes
  rw [e]
  constructor
  · intro h
    have := ba_ext h
    rw [← this]
  · intro h
    have : (⟨(Go.Lib.decDigits u).toArray⟩ : ByteArray) = s := by rw [h]
    rw [this]
theorem pow_le (a : Nat) (h : a ≤ 5) : 10 ^ a ≤ 100000 := Nat.pow_le_pow_right (by omega) h
theorem spec_loop (s : ByteArray) (hs : s.size ≤ 5) (d : Nat) : ∀ (k u i : Nat), i + d = s.size → u < 10 ^ i → d < k → spec_ParseNum.l0 k s (u : Int) (i : Int) = some (ansOf (pn (s.data.toList.drop i) u)) := by
  induction d with
  | zero =>
    intro k u i hi hu hk
    obtain ⟨k, rfl⟩ : ∃ m, k = m + 1 := ⟨k - 1, by omega⟩
    simp only [spec_ParseNum.l0]
    rw [if_neg (by omega), List.drop_eq_nil_of_le (by rw [dlen]; omega)]
    rfl
  | succ d ih =>
    intro k u i hi hu hk
    obtain ⟨k, rfl⟩ : ∃ m, k = m + 1 := ⟨k - 1, by omega⟩
    obtain ⟨c, hc, hb⟩ := bt_get s i (by omega)
    have hr := bt_range s (i : Int)
    have hp := pow_le i (by omega)
    simp only [spec_ParseNum.l0]
    rw [if_pos (by omega), if_pos (by omega), hc, hb]
    rw [hb] at hr
    rw [w64 (x := (c.toNat : Int)) (by omega) (by omega)]
    simp only [spec_l1In.f, pn]
    by_cases h1 : 48 ≤ c.toNat ∧ c.toNat ≤ 57
    · rw [if_pos (by omega), if_pos h1]
      simp only [Option.bind_some]
      rw [decide_eq_true (show (c.toNat : Int) ≤ 57 by omega), if_pos rfl, w64 (x := 10 * (u : Int)) (by omega) (by omega), w64 (x := (i : Int) + 1) (by omega) (by omega)]
      have e : wrap64 (10 * (u : Int) + ((c.toNat : Int) - 48) % 256) = ((10 * u + (c.toNat - 48) : Nat) : Int) := by
        rw [w64 (by omega) (by omega)]; omega
      rw [e]
      exact ih k _ (i + 1) (by omega) (by rw [Nat.pow_succ]; omega) (by omega)
    · rw [if_neg h1]
      by_cases h2 : (c.toNat : Int) ≥ 48
      · rw [if_pos h2]
        simp only [Option.bind_some]
        rw [decide_eq_false (show ¬ (c.toNat : Int) ≤ 57 by omega)]
        rfl
      · rw [if_neg h2]
        rfl
theorem impl_loop (s : ByteArray) (hs : s.size ≤ 5) (d : Nat) : ∀ (k u i : Nat), i + d = s.size → u < 10 ^ i → d < k → impl_ParseNum.l0 k s (u : Int) (i : Int) = some (backOf s (pn (s.data.toList.drop i) u)) := by
  induction d with
  | zero =>
    intro k u i hi hu hk
    obtain ⟨k, rfl⟩ : ∃ m, k = m + 1 := ⟨k - 1, by omega⟩
    have hp := pow_le i (by omega)
    simp only [impl_ParseNum.l0]
    rw [if_neg (by omega), List.drop_eq_nil_of_le (by rw [dlen]; omega), impl_NumText_eq _ (num_wf u (by omega))]
    simp only [Option.bind_some, pn, backOf]
    by_cases h : Go.Lib.decDigits u = s.data.toList
    · rw [if_pos h, if_pos ((itoa_eq s u).2 h)]
    · rw [if_neg h, if_neg (fun hh => h ((itoa_eq s u).1 hh))]
  | succ d ih =>
    intro k u i hi hu hk
    obtain ⟨k, rfl⟩ : ∃ m, k = m + 1 := ⟨k - 1, by omega⟩
    obtain ⟨c, hc, hb⟩ := bt_get s i (by omega)
    have hr := bt_range s (i : Int)
    have hp := pow_le i (by omega)
    simp only [impl_ParseNum.l0]
    rw [if_pos (by omega), if_pos (by omega), hc, hb]
    rw [hb] at hr
    simp only [pn]
    by_cases h1 : 48 ≤ c.toNat ∧ c.toNat ≤ 57
    · rw [if_neg (by omega), if_neg (by omega), if_pos h1, w64 (x := 10 * (u : Int)) (by omega) (by omega), w64 (x := (i : Int) + 1) (by omega) (by omega)]
      have e : wrap64 (10 * (u : Int) + ((c.toNat : Int) - 48) % 256) = ((10 * u + (c.toNat - 48) : Nat) : Int) := by
        rw [w64 (by omega) (by omega)]; omega
      rw [e]
      exact ih k _ (i + 1) (by omega) (by rw [Nat.pow_succ]; omega) (by omega)
    · rw [if_neg h1]
      by_cases h2 : (c.toNat : Int) < 48
      · rw [if_pos h2]; rfl
      · rw [if_neg h2, if_pos (by omega)]; rfl
def parseOf (s : ByteArray) : Int × Bool := if 1 ≤ s.size ∧ s.size ≤ 5 then backOf s (pn s.data.toList 0) else (0, false)
theorem ParseNum_both (s : ByteArray) (k : Nat) (hk : 30 < k) : ∃ x : Int × Bool, x = parseOf s ∧ spec_ParseNum.f k s = some x ∧ impl_ParseNum.f k s = some x := by
  unfold spec_ParseNum.f impl_ParseNum.f impl_in.f
  obtain ⟨k, rfl⟩ : ∃ m, k = m + 1 := ⟨k - 1, by omega⟩
  by_cases h0 : s.size = 0
  · refine ⟨(0, false), by unfold parseOf; rw [if_neg (by omega)], ?_, ?_⟩
    · rw [if_pos (by omega)]; rfl
    · rw [if_neg (by omega)]; rfl
  · rw [if_neg (by omega)]
    by_cases h5 : s.size > 5
    · refine ⟨(0, false), by unfold parseOf; rw [if_neg (by omega)], ?_, ?_⟩
      · rw [if_pos (by omega)]; rfl
      · rw [if_pos (by omega)]
        simp only [Option.bind_some]
        rw [decide_eq_false (by omega)]; rfl
    · have eI : ((if (s.size : Int) ≥ 1 then (some (decide ((s.size : Int) ≤ 5))) else (some false)).bind fun t103 => (if t103 = true then (impl_ParseNum.l0 (k + 1) s 0 0) else (some (0, false)))) = impl_ParseNum.l0 (k + 1) s 0 0 := by
        rw [if_pos (by omega)]
        simp only [Option.bind_some]
        rw [decide_eq_true (show (s.size : Int) ≤ 5 by omega), if_pos rfl]
      rw [eI, if_neg (show ¬ (s.size : Int) > 5 by omega)]
      obtain ⟨c, hc, hb⟩ := bt_get s 0 (by omega)
      have hi := impl_loop s (by omega) s.size (k + 1) 0 0 (by omega) (by simp) (by omega)
      have hsp := spec_loop s (by omega) s.size k 0 0 (by omega) (by simp) (by omega)
      have hz : ((0 : Nat) : Int) = 0 := rfl
      rw [hz] at hi hsp hb
      have hd0 : s.data.toList.drop 0 = s.data.toList := rfl
      rw [hd0] at hi hsp hc
      have hlen := dlen s
      refine ⟨_, by unfold parseOf; rw [if_pos (by omega)], ?_, hi⟩
      by_cases h1 : s.size > 1
      · rw [if_pos (by omega), if_pos (by omega)]
        have hne : s.data.toList.drop (0 + 1) ≠ [] := fun e => by
          have := congrArg List.length e
          simp [hlen] at this
          omega
        by_cases hcc : c.toNat = 48
        · have e1 : (bt s 0 == 48) = true := by rw [hb, hcc]; rfl
          rw [e1]
          simp only [spec_ParseNum.j0, if_true]
          cases hp : pn s.data.toList 0 with
          | none => rfl
          | some v =>
            rw [hc] at hp
            have := pn_back c _ v hp
            simp only [backOf]
            rw [hc, if_neg (fun hh => (this.1 hh) ⟨hne, hcc⟩)]
        · have e1 : (bt s 0 == 48) = false := by rw [hb]; rw [beq_eq_false_iff_ne]; omega
          rw [e1]
          simp only [spec_ParseNum.j0, Bool.false_eq_true, if_false]
          rw [hsp]
          cases hp : pn s.data.toList 0 with
          | none => rfl
          | some v =>
            rw [hc] at hp
            have := pn_back c _ v hp
            simp only [backOf, ansOf]
            rw [hc, if_pos (this.2 (fun hh => hcc hh.2))]
      · rw [if_neg (by omega)]
        simp only [spec_ParseNum.j0, Bool.false_eq_true, if_false]
        rw [hsp]
        have hnil : s.data.toList.drop (0 + 1) = [] := List.drop_eq_nil_of_le (by omega)
        cases hp : pn s.data.toList 0 with
        | none => rfl
        | some v =>
          rw [hc] at hp
          have := pn_back c _ v hp
          simp only [backOf, ansOf]
          rw [hc, if_pos (this.2 (fun hh => hh.1 hnil))]

/-! ### Cur -/
theorem l1Byte_ok (b : List Int) (i h : Int) (hc : CurOk b i) : ∃ x i' h', spec_l1Byte.f b i h = some (x, i', h') ∧ 0 ≤ x ∧ x ≤ 255 ∧ CurOk b i' := by
  obtain ⟨h0, h1, h2⟩ := hc
  unfold spec_l1Byte.f
  by_cases hi : i < (b.length : Int)
  · rw [if_pos hi, if_pos h0]
    exact ⟨_, _, _, rfl, (and255 _).1, (and255 _).2, by rw [w64 (by omega) (by omega)]; exact ⟨by omega, by omega, h2⟩⟩
  · rw [if_neg hi]
    exact ⟨_, _, _, rfl, (and255 _).1, (and255 _).2, h0, h1, h2⟩
theorem l1Below_ok (b : List Int) (i h n : Int) (hc : CurOk b i) : ∃ x i' h', spec_l1Below.f b i h n = some (x, i', h') ∧ 0 ≤ x ∧ (0 < n → x < n) ∧ CurOk b i' := by
  unfold spec_l1Below.f
  by_cases hn : n ≤ 0
  · rw [if_pos hn]
    exact ⟨_, _, _, rfl, by omega, by omega, hc⟩
  · rw [if_neg hn]
    obtain ⟨x, i1, g1, e1, hx0, hx1, c1⟩ := l1Byte_ok b i h hc
    by_cases hb : n ≤ 256
    · rw [if_pos hb, e1]
      simp only [Option.bind_some]
      rw [if_neg (by omega)]
      have := tmod_range hx0 (show 0 < n by omega)
      exact ⟨_, _, _, rfl, this.1, fun _ => this.2, c1⟩
    · obtain ⟨y, i2, g2, e2, hy0, hy1, c2⟩ := l1Byte_ok b i1 g1 c1
      obtain ⟨z, i3, g3, e3, hz0, hz1, c3⟩ := l1Byte_ok b i2 g2 c2
      rw [if_neg hb, e1]
      simp only [Option.bind_some, e2, e3]
      rw [if_neg (by omega), w64 (x := x * 65536) (by omega) (by omega), w64 (x := y * 256) (by omega) (by omega), w64 (x := x * 65536 + y * 256) (by omega) (by omega), w64 (by omega) (by omega)]
      have := tmod_range (show 0 ≤ x * 65536 + y * 256 + z by omega) (show 0 < n by omega)
      exact ⟨_, _, _, rfl, this.1, fun _ => this.2, c3⟩

/-! ### CurNew -/
theorem l1New_l (b : List Int) (hb : b.length ≤ 140737488351232) (d : Nat) : ∀ (k : Nat) (x i : Int), 0 ≤ i → (b.length : Int) - i = d → d < k → ∃ h, spec_l1New.l0 k b x i = some (b, 0, h) := by
  induction d with
  | zero =>
    intro k x i h0 hd hk
    obtain ⟨k, rfl⟩ : ∃ m, k = m + 1 := ⟨k - 1, by omega⟩
    simp only [spec_l1New.l0]
    rw [if_neg (by omega)]
    exact ⟨_, rfl⟩
  | succ d ih =>
    intro k x i h0 hd hk
    obtain ⟨k, rfl⟩ : ∃ m, k = m + 1 := ⟨k - 1, by omega⟩
    simp only [spec_l1New.l0]
    rw [if_pos (by omega)]
    by_cases h4 : i < 4000
    · rw [if_pos h4, if_pos h0, w64 (x := i + 1) (by omega) (by omega)]
      exact ih k _ _ (by omega) (by omega) (by omega)
    · rw [if_neg h4]
      exact ⟨_, rfl⟩
theorem l1New_ok (b : List Int) (hb : b.length ≤ 140737488351232) (k : Nat) (hk : b.length < k) : ∃ h, spec_l1New.f k b = some (b, 0, h) ∧ CurOk b 0 := by
  obtain ⟨h, e⟩ := l1New_l b hb b.length k (wrap64 (140873 + (b.length : Int))) 0 (by omega) (by omega) hk
  exact ⟨h, e, by omega, by omega, hb⟩

/-! ### CurOnce -/
theorem l1Once_ok (b : List Int) (i h n : Int) (hc : CurOk b i) : ∃ t i' h', spec_l1Once.f b i h n = some (t, i', h') ∧ CurOk b i' := by
  obtain ⟨x, i1, h1, e, _, _, c⟩ := l1Below_ok b i h n hc
  unfold spec_l1Once.f
  rw [e]
  exact ⟨_, _, _, rfl, c⟩

/-! ### CurInt -/
theorem l1Int_ok (b : List Int) (i h : Int) (l : List Int) (hl : 0 < l.length) (hc : CurOk b i) : ∃ s i' h', spec_l1Int.f b i h l = some (s, i', h') ∧ s ∈ l ∧ CurOk b i' := by
  obtain ⟨x, i1, h1, e, h0, hn, c⟩ := l1Below_ok b i h l.length hc
  unfold spec_l1Int.f
  rw [e]
  simp only [Option.bind_some]
  rw [if_pos h0, if_pos (hn (by omega))]
  exact ⟨_, _, _, rfl, rd_mem_int _ _ h0 (hn (by omega)), c⟩

/-! ### L1Raw -/
theorem l1Odd_ok (b : List Int) (i h : Int) (hc : CurOk b i) : ∃ x i' h', spec_l1Odd.f b i h = some (x, i', h') ∧ (-9223372036854775808 ≤ x ∧ x ≤ 9223372036854775807) ∧ CurOk b i' := by
  unfold spec_l1Odd.f
  obtain ⟨s, i2, h2, e2, hm, c2⟩ := l1Int_ok b i h (([(-1), 0, 1, 2, 255, 256, 65535, 2147483647, 2147483648, 4294967295, 4294967296, (-2147483648), 9223372036854775807, (-9223372036854775808)] : List Int)) (by decide) hc
  rw [e2]
  refine ⟨_, _, _, rfl, ?_, c2⟩
  simp only [List.mem_cons, List.not_mem_nil, or_false] at hm
  omega
theorem l1Raw_ok (b : List Int) (i h : Int) (hc : CurOk b i) : ∃ x i' h', spec_l1Raw.f b i h = some (x, i', h') ∧ (-9223372036854775808 ≤ x ∧ x ≤ 9223372036854775807) ∧ CurOk b i' := by
  unfold spec_l1Raw.f
  obtain ⟨t, i1, h1, e1, c1⟩ := l1Once_ok b i h 2 hc
  rw [e1]
  simp only [Option.bind_some]
  by_cases ht : t = true
  · rw [if_pos ht]
    obtain ⟨s, i2, h2, e2, hm, c2⟩ := l1Odd_ok b i1 h1 c1
    rw [e2]
    exact ⟨_, _, _, rfl, hm, c2⟩
  · rw [if_neg ht]
    obtain ⟨s, i2, h2, e2, hm, c2⟩ := l1Int_ok b i1 h1 (([(-1), 0, 1, 3, 99999, 100000] : List Int)) (by decide) c1
    rw [e2]
    refine ⟨_, _, _, rfl, ?_, c2⟩
    simp only [List.mem_cons, List.not_mem_nil, or_false] at hm
    omega

/-! ### CurStr -/
theorem l1Str_ok (b : List Int) (i h : Int) (l : List ByteArray) (hl : 0 < l.length) (hc : CurOk b i) : ∃ s i' h', spec_l1Str.f b i h l = some (s, i', h') ∧ s ∈ l ∧ CurOk b i' := by
  obtain ⟨x, i1, h1, e, h0, hn, c⟩ := l1Below_ok b i h l.length hc
  unfold spec_l1Str.f
  rw [e]
  simp only [Option.bind_some]
  rw [if_pos h0, if_pos (hn (by omega))]
  exact ⟨_, _, _, rfl, rdOf_mem _ _ _ h0 (hn (by omega)), c⟩
theorem all13 (l : List ByteArray) (h : l.all (fun s => decide (s.size ≤ 13)) = true) : ∀ s ∈ l, s.size ≤ 13 := fun s hs => of_decide_eq_true (List.all_eq_true.1 h s hs)
theorem l1Str_sz (b : List Int) (i h : Int) (l : List ByteArray) (hl : 0 < l.length) (h13 : l.all (fun s => decide (s.size ≤ 13)) = true) (hc : CurOk b i) : ∃ s i' h', spec_l1Str.f b i h l = some (s, i', h') ∧ s.size ≤ 13 ∧ CurOk b i' := by
  obtain ⟨s, i', h', e, hm, c⟩ := l1Str_ok b i h l hl hc
  exact ⟨s, i', h', e, all13 l h13 s hm, c⟩

/-! ### Digits -/
theorem pn_append : ∀ (a b : List UInt8) (n : Nat), pn (a ++ b) n = (pn a n).bind (pn b)
  | [], b, n => rfl
  | c :: a, b, n => by
    simp only [List.cons_append, pn]
    by_cases h : 48 ≤ c.toNat ∧ c.toNat ≤ 57
    · rw [if_pos h, if_pos h]; exact pn_append a b _
    · rw [if_neg h, if_neg h]; rfl
theorem pn_one (d u : Nat) (hd : d < 10) : pn [UInt8.ofNat (48 + d)] u = some (10 * u + d) := by
  have e : (UInt8.ofNat (48 + d)).toNat = 48 + d := by simp; omega
  simp only [pn, e]
  rw [if_pos (by omega)]
  congr 1
  omega
theorem pn_dec (v : Nat) : pn (Go.Lib.decDigits v) 0 = some v := by
  induction v using Nat.strongRecOn with
  | _ v ih =>
    by_cases h : v < 10
    · rw [Go.Lib.decDigits_one h, pn_one v 0 h]; simp
    · rw [Go.Lib.decDigits, dif_neg h, pn_append, ih (v / 10) (by omega)]
      simp only [Option.bind_some]
      rw [pn_one _ _ (Nat.mod_lt _ (by omega))]
      congr 1
      omega
theorem itoaBytes_data (n : Int) : (Foreign.itoaBytes n).data.toList = Go.Lib.itoa n := rfl
theorem itoa_nat (u : Nat) : Go.Lib.itoa (u : Int) = Go.Lib.decDigits u := by unfold Go.Lib.itoa; rw [if_neg (by omega)]; simp
/-- What is read as a number is that number's text. -/
theorem parse_true (s : ByteArray) (h : (parseOf s).2 = true) : ∃ u : Nat, parseOf s = ((u : Int), true) ∧ Go.Lib.decDigits u = s.data.toList ∧ u < 100000 := by
  unfold parseOf at h ⊢
  by_cases hz : 1 ≤ s.size ∧ s.size ≤ 5
  · rw [if_pos hz] at h ⊢
    cases hp : pn s.data.toList 0 with
    | none => rw [hp] at h; cases h
    | some u =>
      rw [hp] at h
      simp only [backOf] at h ⊢
      by_cases hd : Go.Lib.decDigits u = s.data.toList
      · rw [if_pos hd]
        have hl := pn_lt s.data.toList 0 0 u (by simp) hp
        rw [dlen, Nat.zero_add] at hl
        have := pow_le s.size hz.2
        exact ⟨u, rfl, hd, by omega⟩
      · rw [if_neg hd] at h; cases h
  · rw [if_neg hz] at h; cases h
theorem parse_itoa (u : Nat) (hu : u < 100000) : parseOf (Foreign.itoaBytes (u : Int)) = ((u : Int), true) := by
  have e : (Foreign.itoaBytes (u : Int)).data.toList = Go.Lib.decDigits u := by rw [itoaBytes_data, itoa_nat]
  have hs : (Foreign.itoaBytes (u : Int)).size = Go.Lib.nDigits u := by rw [← dlen, e, Go.Lib.decDigits_length]
  unfold parseOf
  have h1 := Go.Lib.nDigits_pos u
  have h5 := nd_le 4 u (by omega)
  rw [if_pos (by omega), e, pn_dec u]
  simp only [backOf]
  rw [e, if_pos rfl]
theorem parse_range (n : Int) : (parseOf (Foreign.itoaBytes n)).2 = (decide (n ≥ 0) && decide (n ≤ 99999)) ∧ ((parseOf (Foreign.itoaBytes n)).2 = true → (parseOf (Foreign.itoaBytes n)).1 = n) := by
  have key : (parseOf (Foreign.itoaBytes n)).2 = true → 0 ≤ n ∧ n ≤ 99999 := by
    intro h
    obtain ⟨u, _, hd, hu⟩ := parse_true _ h
    rw [itoaBytes_data] at hd
    by_cases hn : n < 0
    · exfalso
      unfold Go.Lib.itoa at hd
      rw [if_pos hn] at hd
      have := pn_dec u
      rw [hd] at this
      simp [pn] at this
    · obtain ⟨v, rfl⟩ : ∃ v : Nat, n = (v : Int) := ⟨n.toNat, by omega⟩
      rw [itoa_nat] at hd
      have h1 := pn_dec u
      rw [hd, pn_dec v] at h1
      have := Option.some.inj h1
      omega
  by_cases hr : 0 ≤ n ∧ n ≤ 99999
  · obtain ⟨v, rfl⟩ : ∃ v : Nat, n = (v : Int) := ⟨n.toNat, by omega⟩
    rw [parse_itoa v (by omega)]
    refine ⟨?_, fun _ => rfl⟩
    rw [decide_eq_true (by omega), decide_eq_true (by omega)]; rfl
  · have hf : (parseOf (Foreign.itoaBytes n)).2 = false := Bool.eq_false_iff.mpr fun h => hr (key h)
    refine ⟨?_, fun h => by rw [hf] at h; cases h⟩
    rw [hf]
    by_cases h0 : 0 ≤ n
    · rw [decide_eq_false (show ¬ n ≤ 99999 by omega)]; simp
    · rw [decide_eq_false (show ¬ n ≥ 0 by omega)]; rfl

/-! ### DrawDigits -/
theorem DrawNumText_ok (b : List Int) (hb : b.length ≤ 140737488351232) (k : Nat) (hk : b.length + 8 < k) : ∃ n, spec_DrawNumText.f k b = some n ∧ (Lit.int .i64 n).wf = true := by
  unfold spec_DrawNumText.f
  obtain ⟨h, e, c⟩ := l1New_ok b hb k (by omega)
  rw [e]
  simp only [Option.bind_some]
  obtain ⟨t, i1, h1, e1, c1⟩ := l1Once_ok b 0 h 2 c
  rw [e1]
  simp only [Option.bind_some]
  by_cases ht : t = true
  · rw [if_pos ht]
    obtain ⟨x, i2, h2, e2, hx, c2⟩ := l1Raw_ok b i1 h1 c1
    rw [e2]
    refine ⟨_, rfl, ?_⟩
    simp [Lit.wf, IntKind.min, IntKind.max, IntKind.signed, IntKind.bits]; omega
  · rw [if_neg ht]
    obtain ⟨x, i2, h2, e2, h0, hx, c2⟩ := l1Below_ok b i1 h1 100000 c1
    rw [e2]
    have := hx (by omega)
    refine ⟨_, rfl, ?_⟩
    simp [Lit.wf, IntKind.min, IntKind.max, IntKind.signed, IntKind.bits]; omega
theorem DrawParseNum_ok (b : List Int) (hb : b.length ≤ 140737488351232) (k : Nat) (hk : b.length + 40 < k) : ∃ s, spec_DrawParseNum.f k b = some s := by
  unfold spec_DrawParseNum.f
  obtain ⟨h, e, c⟩ := l1New_ok b hb k (by omega)
  rw [e]
  simp only [Option.bind_some]
  obtain ⟨t, i1, h1, e1, c1⟩ := l1Once_ok b 0 h 2 c
  rw [e1]
  simp only [Option.bind_some]
  by_cases ht : t = true
  · rw [if_pos ht]
    obtain ⟨s, i2, h2, e2, hm, c2⟩ := l1Str_ok b i1 h1 (([(⟨#[]⟩ : ByteArray), (⟨#[48]⟩ : ByteArray), (⟨#[48, 48]⟩ : ByteArray), (⟨#[48, 49]⟩ : ByteArray), (⟨#[55]⟩ : ByteArray), (⟨#[57, 57, 57, 57, 57]⟩ : ByteArray), (⟨#[49, 48, 48, 48, 48, 48]⟩ : ByteArray), (⟨#[45, 49]⟩ : ByteArray), (⟨#[49, 120]⟩ : ByteArray), (⟨#[32, 49]⟩ : ByteArray)] : List ByteArray)) (by decide) c1
    rw [e2]
    exact ⟨_, rfl⟩
  · rw [if_neg ht]
    obtain ⟨x, i2, h2, e2, h0, hx, c2⟩ := l1Below_ok b i1 h1 100000 c1
    rw [e2]
    have := hx (by omega)
    have w : (Lit.int .i64 x).wf = true := by simp [Lit.wf, IntKind.min, IntKind.max, IntKind.signed, IntKind.bits]; omega
    simp only [Option.bind_some]
    rw [spec_NumText_eq x w k (by omega)]
    exact ⟨_, rfl⟩

theorem FnDigits : laws_FnDigits.Pure := by
  intro b hb _ _
  obtain ⟨m, hm⟩ : ∃ m : Nat, 4194304 < m := ⟨4194305, by omega⟩
  refine ⟨m, ?_⟩
  unfold laws_FnDigits.f laws_big.f
  simp only [Option.bind_some]
  by_cases hz : (b.length : Int) > 1048576
  · rw [if_pos (decide_eq_true hz)]
  · rw [if_neg (by simpa using hz)]
    obtain ⟨n, en, wn⟩ := DrawNumText_ok b (by omega) m (by omega)
    obtain ⟨t, et⟩ := DrawParseNum_ok b (by omega) m (by omega)
    obtain ⟨x, hx, _, ex⟩ := ParseNum_both (Foreign.itoaBytes n) m (by omega)
    obtain ⟨y, hy, esy, ey⟩ := ParseNum_both t m (by omega)
    rw [en, et]
    simp only [Option.bind_some]
    rw [impl_NumText_eq n wn, spec_NumText_eq n wn m (by omega)]
    simp only [Option.bind_some]
    rw [ex, ey, esy]
    simp only [Option.bind_some, if_true, beq_self_eq_true]
    have hr := parse_range n
    rw [← hx] at hr
    have fin : (if y.2 = true then ((impl_NumText.f y.1).bind fun t197 => (some (t197.toList == t.toList))) else (some true)) = some true := by
      by_cases h2 : y.2 = true
      · rw [if_pos h2]
        rw [hy] at h2 ⊢
        obtain ⟨u, hu, hd, hlt⟩ := parse_true t h2
        rw [hu]
        simp only
        rw [impl_NumText_eq _ (num_wf u (by omega))]
        simp only [Option.bind_some]
        rw [(itoa_eq t u).2 hd]
        simp
      · rw [if_neg h2]
    by_cases hn : n ≥ 0
    · rw [if_pos hn]
      have e1 : x.2 = decide (n ≤ 99999) := by rw [hr.1, decide_eq_true hn]; rfl
      rw [← e1]
      simp only [beq_self_eq_true, if_true]
      by_cases h2 : x.2 = true
      · rw [if_pos h2, if_pos (hr.2 h2)]; exact fin
      · rw [if_neg h2]; exact fin
    · rw [if_neg hn]
      have e1 : x.2 = false := by rw [hr.1, decide_eq_false hn]; rfl
      rw [e1]
      simp only [beq_self_eq_true, if_true, Bool.false_eq_true, if_false]
      exact fin

end Go.Proofs.YtglefglknlcojacDoor.Pure
