/- The program's ParseNum returns what the reference's ParseNum returns, for all arguments; no conditions. -/
import Derived.Test.YtglefglknlcojabDoorPFnExactParseNumx1
import Derived.Test.YtglefglknlcojabDoorM0
import Derived.Test.YtglefglknlcojabDoorM1
import Derived.Test.YtglefglknlcojabDoorM2
import Derived.Test.YtglefglknlcojabDoorM3
set_option linter.unusedVariables false
set_option linter.unusedSimpArgs false
namespace Go.Proofs.YtglefglknlcojabDoor.Pure
open Go.RowKit Go.Proofs.YtglefglknlcojabDoor.PFnExactParseNum Go.Proofs.YtglefglknlcojabDoorW.PrintWords Go.Proofs.YtglefglknlcojabDoorW.PrintLast Go.Proofs.YtglefglknlcojabDoor.M0 Go.Proofs.YtglefglknlcojabDoor.M1 Go.Proofs.YtglefglknlcojabDoor.M2 Go.Proofs.YtglefglknlcojabDoor.M3

/-! ### NumText -/
/-- The digits of v, none for 0. -/
def Dl (v : Nat) : List UInt8 := if v = 0 then [] else Go.Lib.decDigits v
theorem Dl_step (v : Nat) (h : v ≠ 0) : Dl v = Dl (v / 10) ++ [UInt8.ofNat (48 + v % 10)] := by
  unfold Dl
  rw [if_neg h]
  by_cases h1 : v < 10
  · rw [Go.Lib.decDigits_one h1, if_pos (by omega), Nat.mod_eq_of_lt h1]; rfl
  · rw [if_neg (by omega), Go.Lib.decDigits, dif_neg h1]
theorem nd_le : ∀ (m v : Nat), v < 10 ^ (m + 1) → Go.Lib.nDigits v ≤ m + 1
  | 0, v, h => by rw [Go.Lib.nDigits_small (by simpa using h)]; omega
  | m + 1, v, h => by
    by_cases h1 : v < 10
    · rw [Go.Lib.nDigits_small h1]; omega
    · rw [Nat.pow_succ] at h
      rw [Go.Lib.nDigits_big h1]
      have := nd_le m (v / 10) (by omega)
      omega
theorem strOfD (d : Nat) (hd : d < 10) (s : List UInt8) : strOfNums [(48 + (d : Int)) % 256] ++ (⟨s.toArray⟩ : ByteArray) = ⟨(UInt8.ofNat (48 + d) :: s).toArray⟩ := by
  have e : ((48 + (d : Int)) % 256).toNat = 48 + d := by omega
  unfold strOfNums
  rw [List.map_cons, List.map_nil, e, ByteArray.mk_append_mk]
  rfl
theorem impl_NumText_eq (n : Int) (h : (Lit.int .i64 n).wf = true) : impl_NumText.f n = some (Foreign.itoaBytes n) := by
  obtain ⟨h0, h1⟩ : -9223372036854775808 ≤ n ∧ n ≤ 9223372036854775807 := by
    have := h
    simp [Lit.wf, IntKind.min, IntKind.max, IntKind.signed, IntKind.bits] at this
    omega
  unfold impl_NumText.f strconv_Itoa.f Foreign.itoaOf
  rw [if_pos ⟨h0, h1⟩]; rfl
theorem itoa_le (n : Int) (h : (Lit.int .i64 n).wf = true) : (Foreign.itoaBytes n).size ≤ 30 := by
  obtain ⟨h0, h1⟩ : -9223372036854775808 ≤ n ∧ n ≤ 9223372036854775807 := by
    have := h
    simp [Lit.wf, IntKind.min, IntKind.max, IntKind.signed, IntKind.bits] at this
    omega
  have e : (Foreign.itoaBytes n).size = (Go.Lib.itoa n).length := by unfold Foreign.itoaBytes; simp [ByteArray.size]
  rw [e]
  unfold Go.Lib.itoa
  by_cases hn : n < 0
  · rw [if_pos hn, List.length_cons, Go.Lib.decDigits_length]
    have := nd_le 19 n.natAbs (by omega)
    omega
  · rw [if_neg hn, Go.Lib.decDigits_length]
    have := nd_le 19 n.toNat (by omega)
    omega

/-! ### ParseNum -/
def pn : List UInt8 → Nat → Option Nat
  | [], n => some n
  | c :: l, n => if 48 ≤ c.toNat ∧ c.toNat ≤ 57 then pn l (10 * n + (c.toNat - 48)) else none
theorem decDigits_snoc (u d : Nat) (hu : 1 ≤ u) (hd : d < 10) : Go.Lib.decDigits (10 * u + d) = Go.Lib.decDigits u ++ [UInt8.ofNat (48 + d)] := by
  rw [Go.Lib.decDigits, dif_neg (by omega)]
  have e1 : (10 * u + d) / 10 = u := by omega
  have e2 : (10 * u + d) % 10 = d := by omega
  rw [e1, e2]
theorem pn_app : ∀ (l : List UInt8) (u v : Nat), 1 ≤ u → pn l u = some v → Go.Lib.decDigits v = Go.Lib.decDigits u ++ l
  | [], u, v, _, h => by simp only [pn, Option.some.injEq] at h; subst h; simp
  | c :: l, u, v, hu, h => by
    unfold pn at h
    by_cases hc : 48 ≤ c.toNat ∧ c.toNat ≤ 57
    · rw [if_pos hc] at h
      rw [pn_app l _ v (by omega) h, decDigits_snoc u _ hu (by omega)]
      have e : UInt8.ofNat (48 + (c.toNat - 48)) = c := by
        rw [show 48 + (c.toNat - 48) = c.toNat by omega]; simp
      rw [e]; simp
    · rw [if_neg hc] at h; cases h
theorem pn_lt : ∀ (l : List UInt8) (a u v : Nat), u < 10 ^ a → pn l u = some v → v < 10 ^ (a + l.length)
  | [], a, u, v, hu, h => by simp only [pn, Option.some.injEq] at h; subst h; simpa using hu
  | c :: l, a, u, v, hu, h => by
    unfold pn at h
    by_cases hc : 48 ≤ c.toNat ∧ c.toNat ≤ 57
    · rw [if_pos hc] at h
      have := pn_lt l (a + 1) _ v (by rw [Nat.pow_succ]; omega) h
      rw [List.length_cons]
      rw [show a + (l.length + 1) = a + 1 + l.length by omega]
      exact this
    · rw [if_neg hc] at h; cases h
/-- A numeral comes back just where it does not open with a needless 0. -/
theorem pn_back (c : UInt8) (l : List UInt8) (v : Nat) (h : pn (c :: l) 0 = some v) : Go.Lib.decDigits v = c :: l ↔ ¬ (l ≠ [] ∧ c.toNat = 48) := by
  unfold pn at h
  by_cases hc : 48 ≤ c.toNat ∧ c.toNat ≤ 57
  · rw [if_pos hc] at h
    by_cases h0 : c.toNat = 48
    · rw [h0] at h
      cases l with
      | nil =>
        simp only [pn, Option.some.injEq] at h
        subst h
        rw [Go.Lib.decDigits_one (by omega)]
        have e : UInt8.ofNat (48 + (10 * 0 + (48 - 48))) = c := by
          rw [show 48 + (10 * 0 + (48 - 48)) = c.toNat by omega]; simp
        rw [e]; simp
      | cons b l =>
        constructor
        · intro e
          exfalso
          have hl := pn_lt (b :: l) 0 _ v (by simp) h
          have hn := nd_le l.length v (by simpa using hl)
          rw [← Go.Lib.decDigits_length, e] at hn
          simp at hn
          omega
        · intro hh; exact absurd ⟨by simp, h0⟩ hh
    · have := pn_app l _ v (by omega) h
      rw [this, Go.Lib.decDigits_one (by omega)]
      have e : UInt8.ofNat (48 + (10 * 0 + (c.toNat - 48))) = c := by
        rw [show 48 + (10 * 0 + (c.toNat - 48)) = c.toNat by omega]; simp
      rw [e]
      exact ⟨fun _ hh => h0 hh.2, fun _ => rfl⟩
  · rw [if_neg hc] at h; cases h
theorem dlen (s : ByteArray) : s.data.toList.length = s.size := by rw [Array.length_toList]; rfl
theorem bt_get (s : ByteArray) (i : Nat) (h : i < s.size) : ∃ c, s.data.toList.drop i = c :: s.data.toList.drop (i + 1) ∧ bt s (i : Int) = (c.toNat : Int) := by
  have h' : i < s.data.toList.length := by rw [dlen]; exact h
  refine ⟨s.data.toList[i], List.drop_eq_getElem_cons h', ?_⟩
  unfold bt
  rw [dif_pos (by simpa using h)]
  simp [ByteArray.getElem_eq_getElem_data]
def ansOf (o : Option Nat) : Int × Bool := match o with
  | some v => ((v : Int), true)
  | none => (0, false)
def backOf (s : ByteArray) (o : Option Nat) : Int × Bool := match o with
  | some v => if Go.Lib.decDigits v = s.data.toList then ((v : Int), true) else (0, false)
  | none => (0, false)
theorem num_wf (u : Nat) (h : u < 100000000) : (Lit.int .i64 (u : Int)).wf = true := by
  simp [Lit.wf, IntKind.min, IntKind.max, IntKind.signed, IntKind.bits]; omega
theorem itoa_eq (s : ByteArray) (u : Nat) : ((Foreign.itoaBytes (u : Int)).toList = s.toList) ↔ Go.Lib.decDigits u = s.data.toList := by
  have e : Go.Lib.itoa (u : Int) = Go.Lib.decDigits u := by unfold Go.Lib.itoa; rw [if_neg (by omega)]; simp
  unfold Foreign.itoaBytes
  rw [e]
  constructor
  · intro h
    have := ba_ext h
    rw [← this]
  · intro h
    have : (⟨(Go.Lib.decDigits u).toArray⟩ : ByteArray) = s := by rw [h]
    rw [this]
theorem pow_le (a : Nat) (h : a ≤ 5) : 10 ^ a ≤ 100000 := Nat.pow_le_pow_right (by omega) h
theorem spec_loop (s : ByteArray) (hs : s.size ≤ 5) (d : Nat) : ∀ (k u i : Nat), i + d = s.size → u < 10 ^ i → d < k → spec_ParseNum.l0 k s (u : Int) (i : Int) = some (ansOf (pn (s.data.toList.drop i) u)) := by
  induction d with
  | zero =>
    intro k u i hi hu hk
    obtain ⟨k, rfl⟩ : ∃ m, k = m + 1 := ⟨k - 1, by omega⟩
    simp only [spec_ParseNum.l0]
    rw [if_neg (by omega), List.drop_eq_nil_of_le (by rw [dlen]; omega)]
    rfl
  | succ d ih =>
    intro k u i hi hu hk
    obtain ⟨k, rfl⟩ : ∃ m, k = m + 1 := ⟨k - 1, by omega⟩
    obtain ⟨c, hc, hb⟩ := bt_get s i (by omega)
    have hr := bt_range s (i : Int)
    have hp := pow_le i (by omega)
    simp only [spec_ParseNum.l0]
    rw [if_pos (by omega), if_pos (by omega), hc, hb]
    rw [hb] at hr
    rw [w64 (x := (c.toNat : Int)) (by omega) (by omega)]
    simp only [spec_l1In.f, pn]
    by_cases h1 : 48 ≤ c.toNat ∧ c.toNat ≤ 57
    · rw [if_pos (by omega), if_pos h1]
      simp only [Option.bind_some]
      rw [decide_eq_true (show (c.toNat : Int) ≤ 57 by omega), if_pos rfl, w64 (x := 10 * (u : Int)) (by omega) (by omega), w64 (x := (i : Int) + 1) (by omega) (by omega)]
      have e : wrap64 (10 * (u : Int) + ((c.toNat : Int) - 48) % 256) = ((10 * u + (c.toNat - 48) : Nat) : Int) := by
        rw [w64 (by omega) (by omega)]; omega
      rw [e]
      exact ih k _ (i + 1) (by omega) (by rw [Nat.pow_succ]; omega) (by omega)
    · rw [if_neg h1]
      by_cases h2 : (c.toNat : Int) ≥ 48
      · rw [if_pos h2]
        simp only [Option.bind_some]
        rw [decide_eq_false (show ¬ (c.toNat : Int) ≤ 57 by omega)]
        rfl
      · rw [if_neg h2]
        rfl
theorem impl_loop (s : ByteArray) (hs : s.size ≤ 5) (d : Nat) : ∀ (k u i : Nat), i + d = s.size → u < 10 ^ i → d < k → impl_ParseNum.l0 k s (u : Int) (i : Int) = some (backOf s (pn (s.data.toList.drop i) u)) := by
  induction d with
  | zero =>
    intro k u i hi hu hk
    obtain ⟨k, rfl⟩ : ∃ m, k = m + 1 := ⟨k - 1, by omega⟩
    have hp := pow_le i (by omega)
    simp only [impl_ParseNum.l0]
    rw [if_neg (by omega), List.drop_eq_nil_of_le (by rw [dlen]; omega), impl_NumText_eq _ (num_wf u (by omega))]
    simp only [Option.bind_some, pn, backOf]
    by_cases h : Go.Lib.decDigits u = s.data.toList
    · rw [if_pos h, if_pos ((itoa_eq s u).2 h)]
    · rw [if_neg h, if_neg (fun hh => h ((itoa_eq s u).1 hh))]
  | succ d ih =>
    intro k u i hi hu hk
    obtain ⟨k, rfl⟩ : ∃ m, k = m + 1 := ⟨k - 1, by omega⟩
    obtain ⟨c, hc, hb⟩ := bt_get s i (by omega)
    have hr := bt_range s (i : Int)
    have hp := pow_le i (by omega)
    simp only [impl_ParseNum.l0]
    rw [if_pos (by omega), if_pos (by omega), hc, hb]
    rw [hb] at hr
    simp only [pn]
    by_cases h1 : 48 ≤ c.toNat ∧ c.toNat ≤ 57
    · rw [if_neg (by omega), if_neg (by omega), if_pos h1, w64 (x := 10 * (u : Int)) (by omega) (by omega), w64 (x := (i : Int) + 1) (by omega) (by omega)]
      have e : wrap64 (10 * (u : Int) + ((c.toNat : Int) - 48) % 256) = ((10 * u + (c.toNat - 48) : Nat) : Int) := by
        rw [w64 (by omega) (by omega)]; omega
      rw [e]
      exact ih k _ (i + 1) (by omega) (by rw [Nat.pow_succ]; omega) (by omega)
    · rw [if_neg h1]
      by_cases h2 : (c.toNat : Int) < 48
      · rw [if_pos h2]; rfl
      · rw [if_neg h2, if_pos (by omega)]; rfl
def parseOf (s : ByteArray) : Int × Bool := if 1 ≤ s.size ∧ s.size ≤ 5 then backOf s (pn s.data.toList 0) else (0, false)
theorem ParseNum_both (s : ByteArray) (k : Nat) (hk : 30 < k) : ∃ x : Int × Bool, x = parseOf s ∧ spec_ParseNum.f k s = some x ∧ impl_ParseNum.f k s = some x := by
  unfold spec_ParseNum.f impl_ParseNum.f impl_in.f
  obtain ⟨k, rfl⟩ : ∃ m, k = m + 1 := ⟨k - 1, by omega⟩
  by_cases h0 : s.size = 0
  · refine ⟨(0, false), by unfold parseOf; rw [if_neg (by omega)], ?_, ?_⟩
    · rw [if_pos (by omega)]; rfl
    · rw [if_neg (by omega)]; rfl
  · rw [if_neg (by omega)]
    by_cases h5 : s.size > 5
    · refine ⟨(0, false), by unfold parseOf; rw [if_neg (by omega)], ?_, ?_⟩
      · rw [if_pos (by omega)]; rfl
      · rw [if_pos (by omega)]
        simp only [Option.bind_some]
        rw [decide_eq_false (by omega)]; rfl
    · have eI : ((if (s.size : Int) ≥ 1 then (some (decide ((s.size : Int) ≤ 5))) else (some false)).bind fun t103 => (if t103 = true then (impl_ParseNum.l0 (k + 1) s 0 0) else (some (0, false)))) = impl_ParseNum.l0 (k + 1) s 0 0 := by
        rw [if_pos (by omega)]
        simp only [Option.bind_some]
        rw [decide_eq_true (show (s.size : Int) ≤ 5 by omega), if_pos rfl]
      rw [eI, if_neg (show ¬ (s.size : Int) > 5 by omega)]
      obtain ⟨c, hc, hb⟩ := bt_get s 0 (by omega)
      have hi := impl_loop s (by omega) s.size (k + 1) 0 0 (by omega) (by simp) (by omega)
      have hsp := spec_loop s (by omega) s.size k 0 0 (by omega) (by simp) (by omega)
      have hz : ((0 : Nat) : Int) = 0 := rfl
      rw [hz] at hi hsp hb
      have hd0 : s.data.toList.drop 0 = s.data.toList := rfl
      rw [hd0] at hi hsp hc
      have hlen := dlen s
      refine ⟨_, by unfold parseOf; rw [if_pos (by omega)], ?_, hi⟩
      by_cases h1 : s.size > 1
      · rw [if_pos (by omega), if_pos (by omega)]
        have hne : s.data.toList.drop (0 + 1) ≠ [] := fun e => by
          have := congrArg List.length e
          simp [hlen] at this
          omega
        by_cases hcc : c.toNat = 48
        · have e1 : (bt s 0 == 48) = true := by rw [hb, hcc]; rfl
          rw [e1]
          simp only [spec_ParseNum.j0, if_true]
          cases hp : pn s.data.toList 0 with
          | none => rfl
          | some v =>
            rw [hc] at hp
            have := pn_back c _ v hp
            simp only [backOf]
            rw [hc, if_neg (fun hh => (this.1 hh) ⟨hne, hcc⟩)]
        · have e1 : (bt s 0 == 48) = false := by rw [hb]; rw [beq_eq_false_iff_ne]; omega
          rw [e1]
          simp only [spec_ParseNum.j0, Bool.false_eq_true, if_false]
          rw [hsp]
          cases hp : pn s.data.toList 0 with
          | none => rfl
          | some v =>
            rw [hc] at hp
            have := pn_back c _ v hp
            simp only [backOf, ansOf]
            rw [hc, if_pos (this.2 (fun hh => hcc hh.2))]
      · rw [if_neg (by omega)]
        simp only [spec_ParseNum.j0, Bool.false_eq_true, if_false]
        rw [hsp]
        have hnil : s.data.toList.drop (0 + 1) = [] := List.drop_eq_nil_of_le (by omega)
        cases hp : pn s.data.toList 0 with
        | none => rfl
        | some v =>
          rw [hc] at hp
          have := pn_back c _ v hp
          simp only [backOf, ansOf]
          rw [hc, if_pos (this.2 (fun hh => hh.1 hnil))]

theorem FnExactParseNum (a0 : ByteArray) (h0 : a0.size ≤ 140737488351232) : ∃ k, laws_FnExactParseNum.f k a0 = some true := by
  refine ⟨31, ?_⟩
  unfold laws_FnExactParseNum.f
  obtain ⟨x, _, hs, hi⟩ := ParseNum_both a0 31 (by omega)
  by_cases hb : (a0.size : Int) > 1048576
  · rw [if_pos hb]
  · rw [if_neg hb, hs, hi]
    simp

end Go.Proofs.YtglefglknlcojabDoor.Pure
