/- The program's Sum returns what the reference's Sum returns, for all texts; no conditions. -/
import Derived.Test.YtakidfccgebkfaaPFnExactSumx1
import Derived.Test.YtakidfccgebkfaaM0
set_option linter.unusedVariables false
set_option linter.unusedSimpArgs false
namespace Go.Proofs.Ytakidfccgebkfaa.Pure
open Go.RowKit Go.Proofs.Ytakidfccgebkfaa.PFnExactSum Go.Proofs.YtakidfccgebkfaaW.PrintWords Go.Proofs.YtakidfccgebkfaaW.PrintLast Go.Proofs.Ytakidfccgebkfaa.M0

/-! ### Sum -/
theorem bits_xor_nat (k : IntKind) (j : Nat) (hj : j ≤ k.bits) (hk : ∀ n : Int, 0 ≤ n → n < 2 ^ j → k.wrap n = n) (a b : Nat) (ha : a < 2 ^ j) (hb : b < 2 ^ j) :
    Go.bits .xor k a b = ((a ^^^ b : Nat) : Int) := by
  have hp : 2 ^ j ≤ 2 ^ k.bits := Nat.pow_le_pow_right (by decide) hj
  have ha' : a % 2 ^ k.bits = a := Nat.mod_eq_of_lt (Nat.lt_of_lt_of_le ha hp)
  have hb' : b % 2 ^ k.bits = b := Nat.mod_eq_of_lt (Nat.lt_of_lt_of_le hb hp)
  simp only [Go.bits, BitVec.ofInt_natCast, BitVec.toNat_xor, BitVec.toNat_ofNat, ha', hb']
  exact hk _ (Int.natCast_nonneg _) (by exact_mod_cast Nat.xor_lt_two_pow ha hb)
theorem xor_u32 (a b : Int) (ha : 0 ≤ a) (ha' : a < 4294967296) (hb : 0 ≤ b) (hb' : b < 4294967296) : Go.bits .xor .u32 a b = ((a.toNat ^^^ b.toNat : Nat) : Int) := by
  obtain ⟨a, rfl⟩ := Int.eq_ofNat_of_zero_le ha
  obtain ⟨b, rfl⟩ := Int.eq_ofNat_of_zero_le hb
  exact bits_xor_nat .u32 32 (by decide) (fun n h0 h1 => by rw [IntKind.wrap_u32]; omega) a b (by omega) (by omega)
theorem xor_i64 (a b : Int) (ha : 0 ≤ a) (ha' : a < 4294967296) (hb : 0 ≤ b) (hb' : b < 4294967296) : Go.bits .xor .i64 a b = ((a.toNat ^^^ b.toNat : Nat) : Int) := by
  obtain ⟨a, rfl⟩ := Int.eq_ofNat_of_zero_le ha
  obtain ⟨b, rfl⟩ := Int.eq_ofNat_of_zero_le hb
  exact bits_xor_nat .i64 32 (by decide) (fun n h0 h1 => by rw [IntKind.wrap_i64]; omega) a b (by omega) (by omega)
theorem xor_lt32 (a b : Int) (ha : 0 ≤ a) (ha' : a < 4294967296) (hb : 0 ≤ b) (hb' : b < 4294967296) : ((a.toNat ^^^ b.toNat : Nat) : Int) < 4294967296 := by
  have := Nat.xor_lt_two_pow (n := 32) (x := a.toNat) (y := b.toNat) (by omega) (by omega)
  omega
theorem mask32 (x : Int) (h0 : 0 ≤ x) (h1 : x < 9223372036854775808) : Go.bits .and .i64 x 4294967295 = x % 4294967296 :=
  Go.bits_mask .i64 63 (by decide) (fun n h0 h1 => by rw [IntKind.wrap_i64]; omega) 32 (by decide) x h0 h1
def sumStep (s : ByteArray) (n i : Int) : Int := (((n.toNat ^^^ (bt s i).toNat : Nat) : Int) * 16777619) % 4294967296
def sumFrom (s : ByteArray) : Nat → Int → Int → Int
  | 0, _, n => n
  | d + 1, i, n => sumFrom s d (i + 1) (sumStep s n i)
def sumOf (s : ByteArray) : Int := sumFrom s s.size 0 2166136261
theorem sumStep_range (s : ByteArray) (n i : Int) : 0 ≤ sumStep s n i ∧ sumStep s n i < 4294967296 := by unfold sumStep; omega
theorem sumFrom_range (s : ByteArray) (d : Nat) : ∀ i n : Int, 0 ≤ n → n < 4294967296 → 0 ≤ sumFrom s d i n ∧ sumFrom s d i n < 4294967296 := by
  induction d with
  | zero => intro i n h0 h1; exact ⟨h0, h1⟩
  | succ d ih => intro i n _ _; exact ih _ _ (sumStep_range s n i).1 (sumStep_range s n i).2
theorem sumOf_range (s : ByteArray) : 0 ≤ sumOf s ∧ sumOf s < 4294967296 := sumFrom_range s _ _ _ (by omega) (by omega)
theorem spec_sum_step (s : ByteArray) (n i : Int) (h0 : 0 ≤ n) (h1 : n < 4294967296) :
    Go.bits .and .i64 (wrap64 ((Go.bits .xor .i64 n (wrap64 (bt s i))) * 16777619)) 4294967295 = sumStep s n i := by
  have hb := bt_range s i
  rw [w64 (x := bt s i) (by omega) (by omega), xor_i64 n (bt s i) h0 h1 hb.1 (by omega)]
  have := xor_lt32 n (bt s i) h0 h1 hb.1 (by omega)
  rw [w64 (by omega) (by omega), mask32 _ (by omega) (by omega)]
  rfl
theorem impl_sum_step (s : ByteArray) (n i : Int) (h0 : 0 ≤ n) (h1 : n < 4294967296) :
    (((Go.bits .xor .u32 n ((bt s i) % 4294967296)) * 16777619) % 4294967296) = sumStep s n i := by
  have hb := bt_range s i
  rw [show bt s i % 4294967296 = bt s i by omega, xor_u32 n (bt s i) h0 h1 hb.1 (by omega)]
  rfl
theorem spec_Sum_l (s : ByteArray) (hn : s.size ≤ 140737488351232) (d : Nat) : ∀ (k : Nat) (n i : Int), 0 ≤ n → n < 4294967296 → 0 ≤ i → (s.size : Int) - i = d → d < k →
    spec_Sum.l0 k s n i = some (sumFrom s d i n) := by
  induction d with
  | zero =>
    intro k n i _ _ h0 hd hk
    obtain ⟨k, rfl⟩ : ∃ m, k = m + 1 := ⟨k - 1, by omega⟩
    simp only [spec_Sum.l0]; rw [if_neg (by omega)]; rfl
  | succ d ih =>
    intro k n i hn0 hn1 h0 hd hk
    obtain ⟨k, rfl⟩ : ∃ m, k = m + 1 := ⟨k - 1, by omega⟩
    simp only [spec_Sum.l0]; rw [if_pos (by omega), if_pos h0, spec_sum_step s n i hn0 hn1, w64 (x := i + 1) (by omega) (by omega)]
    exact ih k _ _ (sumStep_range s n i).1 (sumStep_range s n i).2 (by omega) (by omega) (by omega)
theorem impl_Sum_l (s : ByteArray) (hn : s.size ≤ 140737488351232) (d : Nat) : ∀ (k : Nat) (n i : Int), 0 ≤ n → n < 4294967296 → 0 ≤ i → (s.size : Int) - i = d → d < k →
    impl_Sum.l0 k s n i = some (sumFrom s d i n) := by
  induction d with
  | zero =>
    intro k n i _ _ h0 hd hk
    obtain ⟨k, rfl⟩ : ∃ m, k = m + 1 := ⟨k - 1, by omega⟩
    simp only [impl_Sum.l0]; rw [if_neg (by omega), w64 (by omega) (by omega)]; rfl
  | succ d ih =>
    intro k n i hn0 hn1 h0 hd hk
    obtain ⟨k, rfl⟩ : ∃ m, k = m + 1 := ⟨k - 1, by omega⟩
    simp only [impl_Sum.l0]; rw [if_pos (by omega), if_pos h0, impl_sum_step s n i hn0 hn1, w64 (x := i + 1) (by omega) (by omega)]
    exact ih k _ _ (sumStep_range s n i).1 (sumStep_range s n i).2 (by omega) (by omega) (by omega)
theorem spec_Sum_eq (s : ByteArray) (hn : s.size ≤ 140737488351232) (k : Nat) (hk : s.size < k) : spec_Sum.f k s = some (sumOf s) :=
  spec_Sum_l s hn s.size k _ _ (by omega) (by omega) (by omega) (by omega) hk
theorem impl_Sum_eq (s : ByteArray) (hn : s.size ≤ 140737488351232) (k : Nat) (hk : s.size < k) : impl_Sum.f k s = some (sumOf s) :=
  impl_Sum_l s hn s.size k _ _ (by omega) (by omega) (by omega) (by omega) hk

theorem FnExactSum : laws_FnExactSum.Pure := by
  intro s hn
  refine ⟨s.size + 1, ?_⟩
  unfold laws_FnExactSum.f
  rw [spec_Sum_eq s hn _ (by omega), impl_Sum_eq s hn _ (by omega)]
  simp

end Go.Proofs.Ytakidfccgebkfaa.Pure
