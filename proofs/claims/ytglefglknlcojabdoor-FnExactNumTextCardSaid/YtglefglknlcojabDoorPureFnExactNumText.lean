/- The program's NumText returns what the reference's NumText returns, for all arguments; no conditions. -/
import Derived.Test.YtglefglknlcojabDoorPFnExactNumTextx1
import Derived.Test.YtglefglknlcojabDoorM0
import Derived.Test.YtglefglknlcojabDoorM1
set_option linter.unusedVariables false
set_option linter.unusedSimpArgs false
namespace Go.Proofs.YtglefglknlcojabDoor.Pure
open Go.RowKit Go.Proofs.YtglefglknlcojabDoor.PFnExactNumText Go.Proofs.YtglefglknlcojabDoorW.PrintWords Go.Proofs.YtglefglknlcojabDoorW.PrintLast Go.Proofs.YtglefglknlcojabDoor.M0 Go.Proofs.YtglefglknlcojabDoor.M1

/-! ### NumText -/
/-- The digits of v, none for 0. -/
def Dl (v : Nat) : List UInt8 := if v = 0 then [] else Go.Lib.decDigits v
theorem Dl_step (v : Nat) (h : v ≠ 0) : Dl v = Dl (v / 10) ++ [UInt8.ofNat (48 + v % 10)] := by
  unfold Dl
  rw [if_neg h]
  by_cases h1 : v < 10
  · rw [Go.Lib.decDigits_one h1, if_pos (by omega), Nat.mod_eq_of_lt h1]; rfl
  · rw [if_neg (by omega), Go.Lib.decDigits, dif_neg h1]
theorem strOfD (d : Nat) (hd : d < 10) (s : List UInt8) : strOfNums [(48 + (d : Int)) % 256] ++ (⟨s.toArray⟩ : ByteArray) = ⟨(UInt8.ofNat (48 + d) :: s).toArray⟩ := by
  have e : ((48 + (d : Int)) % 256).toNat = 48 + d := by omega
  unfold strOfNums
  rw [List.map_cons, List.map_nil, e, ByteArray.mk_append_mk]
  rfl
theorem numLoop (d : Nat) : ∀ (k v : Nat) (x0 x : Int) (s : List UInt8), x.natAbs = v → v < 10 ^ d → v ≤ 9223372036854775808 → s.length + d ≤ 1000 → d < k →
    spec_NumText.l0 k x0 ⟨s.toArray⟩ x = some ⟨((if x0 < 0 then [45] else []) ++ (Dl v ++ s)).toArray⟩ := by
  induction d with
  | zero =>
    intro k v x0 x s hx h1 _ hs hk
    obtain ⟨k, rfl⟩ : ∃ m, k = m + 1 := ⟨k - 1, by omega⟩
    have hv : v = 0 := by omega
    subst hv
    have hx0 : x = 0 := by omega
    simp only [spec_NumText.l0]
    rw [if_pos hx0]
    have hz : (⟨s.toArray⟩ : ByteArray).size = s.length := by simp [ByteArray.size]
    by_cases hn : x0 < 0
    · rw [if_pos hn, if_pos hn, if_pos (by rw [hz]; omega)]
      have e : (⟨#[45]⟩ : ByteArray) ++ (⟨s.toArray⟩ : ByteArray) = ⟨([45] ++ s).toArray⟩ := ByteArray.mk_append_mk [45] s
      rw [e]; simp [Dl]
    · rw [if_neg hn, if_neg hn]; simp [Dl]
  | succ d ih =>
    intro k v x0 x s hx h1 h2 hs hk
    have hz : (⟨s.toArray⟩ : ByteArray).size = s.length := by simp [ByteArray.size]
    by_cases hv : v = 0
    · obtain ⟨k, rfl⟩ : ∃ m, k = m + 1 := ⟨k - 1, by omega⟩
      subst hv
      have hx0 : x = 0 := by omega
      simp only [spec_NumText.l0]
      rw [if_pos hx0]
      by_cases hn : x0 < 0
      · rw [if_pos hn, if_pos hn, if_pos (by rw [hz]; omega)]
        have e : (⟨#[45]⟩ : ByteArray) ++ (⟨s.toArray⟩ : ByteArray) = ⟨([45] ++ s).toArray⟩ := ByteArray.mk_append_mk [45] s
        rw [e]; simp [Dl]
      · rw [if_neg hn, if_neg hn]; simp [Dl]
    · obtain ⟨k, rfl⟩ : ∃ m, k = m + 1 := ⟨k - 1, by omega⟩
      have hx0 : ¬ x = 0 := by omega
      have hp : v < 10 ^ d * 10 := by rw [← Nat.pow_succ]; exact h1
      have one : ∀ c : Int, (strOfNums [c]).size = 1 := fun c => by simp [strOfNums, ByteArray.size]
      have hd10 : v % 10 < 10 := Nat.mod_lt _ (by omega)
      have key : ∀ (y : Int), y.natAbs = v / 10 → spec_NumText.l0 k x0 (strOfNums [(48 + ((v % 10 : Nat) : Int)) % 256] ++ ⟨s.toArray⟩) y = some ⟨((if x0 < 0 then [45] else []) ++ (Dl v ++ s)).toArray⟩ := by
        intro y hy
        rw [strOfD _ hd10, ih k (v / 10) x0 y _ hy (by omega) (by omega) (by simp; omega) (by omega), Dl_step v hv]
        simp
      simp only [spec_NumText.l0]
      rw [if_neg hx0]
      simp only [Option.bind_some]
      rcases Int.lt_or_le x 0 with hneg | hpos
      · obtain ⟨u, rfl⟩ : ∃ u : Nat, x = -(u : Int) := ⟨x.natAbs, by omega⟩
        have hu : u = v := by omega
        subst hu
        have et : Int.tmod (-(u : Int)) 10 = -(((u % 10 : Nat)) : Int) := by
          rw [Int.neg_tmod, Int.tmod_eq_emod_of_nonneg (by omega)]; omega
        have ed : Int.tdiv (-(u : Int)) 10 = -(((u / 10 : Nat)) : Int) := by
          rw [Int.neg_tdiv, Int.tdiv_eq_ediv_of_nonneg (by omega)]; omega
        rw [et, ed]
        by_cases hm : -(((u % 10 : Nat)) : Int) < 0
        · rw [if_pos hm, if_pos (by rw [one, hz]; omega), w64 (x := -(-((u % 10 : Nat) : Int))) (by omega) (by omega), Int.neg_neg, w64 (x := 48 + ((u % 10 : Nat) : Int)) (by omega) (by omega), w64 (x := -((u / 10 : Nat) : Int)) (by omega) (by omega)]
          exact key _ (by omega)
        · have h0 : ((u % 10 : Nat) : Int) = 0 := by omega
          rw [if_neg hm, if_pos (by rw [one, hz]; omega), w64 (x := -((u / 10 : Nat) : Int)) (by omega) (by omega)]
          have := key (-((u / 10 : Nat) : Int)) (by omega)
          rw [h0] at this ⊢
          have e0 : wrap64 (48 + -(0 : Int)) = 48 + 0 := (w64 (by omega) (by omega)).trans (by omega)
          rw [e0]
          exact this
      · obtain ⟨u, rfl⟩ : ∃ u : Nat, x = (u : Int) := ⟨x.natAbs, by omega⟩
        have hu : u = v := by omega
        subst hu
        have et : Int.tmod (u : Int) 10 = ((u % 10 : Nat) : Int) := by
          rw [Int.tmod_eq_emod_of_nonneg (by omega)]; omega
        have ed : Int.tdiv (u : Int) 10 = ((u / 10 : Nat) : Int) := by
          rw [Int.tdiv_eq_ediv_of_nonneg (by omega)]; omega
        rw [et, ed, if_neg (by omega), if_pos (by rw [one, hz]; omega), w64 (x := 48 + ((u % 10 : Nat) : Int)) (by omega) (by omega), w64 (x := ((u / 10 : Nat) : Int)) (by omega) (by omega)]
        exact key _ (by omega)
theorem spec_NumText_eq (n : Int) (h : (Lit.int .i64 n).wf = true) (k : Nat) (hk : 30 < k) : spec_NumText.f k n = some (Foreign.itoaBytes n) := by
  obtain ⟨h0, h1⟩ : -9223372036854775808 ≤ n ∧ n ≤ 9223372036854775807 := by
    have := h
    simp [Lit.wf, IntKind.min, IntKind.max, IntKind.signed, IntKind.bits] at this
    omega
  unfold spec_NumText.f Foreign.itoaBytes Go.Lib.itoa
  by_cases hz : n = 0
  · subst hz
    rw [if_pos rfl, if_neg (by omega)]
    have e : Go.Lib.decDigits (0 : Int).toNat = [48] := Go.Lib.decDigits_one (by decide)
    rw [e]
  · rw [if_neg hz]
    have := numLoop 20 k n.natAbs n n [] rfl (by omega) (by omega) (by decide) (by omega)
    have ea : (⟨([] : List UInt8).toArray⟩ : ByteArray) = (⟨#[]⟩ : ByteArray) := rfl
    rw [ea] at this
    rw [this]
    have e2 : Dl n.natAbs = Go.Lib.decDigits n.natAbs := by unfold Dl; rw [if_neg (by omega)]
    rw [e2]
    by_cases hn : n < 0
    · rw [if_pos hn, if_pos hn]; simp
    · rw [if_neg hn, if_neg hn]
      have e3 : n.natAbs = n.toNat := by omega
      rw [e3]; simp
theorem impl_NumText_eq (n : Int) (h : (Lit.int .i64 n).wf = true) : impl_NumText.f n = some (Foreign.itoaBytes n) := by
  obtain ⟨h0, h1⟩ : -9223372036854775808 ≤ n ∧ n ≤ 9223372036854775807 := by
    have := h
    simp [Lit.wf, IntKind.min, IntKind.max, IntKind.signed, IntKind.bits] at this
    omega
  unfold impl_NumText.f strconv_Itoa.f Foreign.itoaOf
  rw [if_pos ⟨h0, h1⟩]; rfl

theorem FnExactNumText (a0 : Int) (h0 : (Lit.int .i64 a0).wf = true) : ∃ k, laws_FnExactNumText.f k a0 = some true := by
  refine ⟨31, ?_⟩
  unfold laws_FnExactNumText.f
  rw [spec_NumText_eq a0 h0 31 (by omega), impl_NumText_eq a0 h0]
  simp

end Go.Proofs.YtglefglknlcojabDoor.Pure
