/- The program's ByOk returns what the reference's ByOk returns, for all arguments, and leaves them alone; no conditions. -/
import Derived.Test.YtglefglknlcojaaPFnExactByOkx2
import Derived.Test.YtglefglknlcojaaM0
import Derived.Test.YtglefglknlcojaaM1
import Derived.Test.YtglefglknlcojaaM2
import Derived.Test.YtglefglknlcojaaM3
import Derived.Test.YtglefglknlcojaaM4
import Derived.Test.YtglefglknlcojaaM5
set_option linter.unusedVariables false
set_option linter.unusedSimpArgs false
namespace Go.Proofs.Ytglefglknlcojaa.Pure
open Go.RowKit Go.Proofs.Ytglefglknlcojaa.PFnExactByOk Go.Proofs.YtglefglknlcojaaW.PrintWords Go.Proofs.YtglefglknlcojaaW.PrintLast Go.Proofs.Ytglefglknlcojaa.M0 Go.Proofs.Ytglefglknlcojaa.M1 Go.Proofs.Ytglefglknlcojaa.M2 Go.Proofs.Ytglefglknlcojaa.M3 Go.Proofs.Ytglefglknlcojaa.M4 Go.Proofs.Ytglefglknlcojaa.M5

/-! ### Strs -/
def szS (l : List ByteArray) : Nat := l.length + (l.map (fun s => s.size)).sum
theorem laws_szStringS_eq (l : List ByteArray) (hl : l.length ≤ 9223372036854775807) (hs : ∀ s ∈ l, s.size ≤ 9223372036854775807) (left : Int) (h0 : 0 ≤ left) (h1 : left ≤ 1048576) (k : Nat) (hk : 1048577 < k) :
    laws_szStringS.f k l left = some (left' (szS l) left) := by
  unfold laws_szStringS.f szS
  rw [left_of_wrap (n := l.length) hl h0 h1 (fun t => laws_szStringS.l0 k l t 0), ← left_add _ _ _ h0]
  by_cases hz : left' l.length left < 0
  · rw [if_pos hz, if_pos hz]
  · rw [if_neg hz, if_neg hz]
    have hle := left_ge h0 hz
    rw [budget_loop l (by omega) (fun s => s.size) ByteArray.empty 0 (fun k t i => laws_szStringS.l0 k l t i) ?_ ?_ l.length k 0 _ (by omega) (by omega) (by omega) (left_le h1) (by omega)]
    · simp
    · intro k i left _ hi hi' hl0 hl1
      simp only [laws_szStringS.l0]
      rw [if_pos hi', if_pos hi]
      have hj : i.toNat < l.length := by omega
      have hb : (rdOf ByteArray.empty l i).size ≤ 9223372036854775807 := by
        show (l.getD i.toNat ByteArray.empty).size ≤ _
        rw [List.getD_eq_getElem?_getD, List.getElem?_eq_getElem hj]
        exact hs _ (List.getElem_mem hj)
      exact left_of_wrap hb hl0 hl1 (fun t => laws_szStringS.l0 k l t (wrap64 (i + 1)))
    · intro k left _
      simp only [laws_szStringS.l0]
      rw [if_neg (by omega)]
theorem laws_toStringS_eq (l : List ByteArray) (hl : l.length ≤ 1048576) (k : Nat) (hk : 1048577 < k) : laws_toStringS.f k l = some l := by
  unfold laws_toStringS.f
  rw [if_pos (by omega), if_pos (by omega)]
  have h := fill_loop l (by omega) (fun s => s) ByteArray.empty 0 (fun k out i => laws_toStringS.l0 k l out i) ?_ ?_ k (⟨#[]⟩ : ByteArray) (by omega)
  · simpa using h
  · intro k i out _ hi hi' ho
    simp only [laws_toStringS.l0]
    rw [if_pos hi', if_pos hi, if_pos (by omega)]
    rfl
  · intro k out _
    simp only [laws_toStringS.l0]
    rw [if_neg (by omega)]
theorem laws_eqStringS_refl (l : List ByteArray) (hl : l.length ≤ 1048576) (k : Nat) (hk : 1048577 < k) : laws_eqStringS.f k l l = some true := by
  unfold laws_eqStringS.f
  rw [if_pos rfl]
  rw [all_loop (n := l.length) (by omega) 0 (fun _ => true) (fun k i => laws_eqStringS.l0 k l l i) (some true) ?_ ?_ l.length k 0 (by omega) (by omega) (by omega) (by omega)]
  · rw [allFrom_true (fun _ => rfl)]; rfl
  · intro k i _ h0 h1
    simp only [laws_eqStringS.l0]
    rw [if_pos h1, if_pos h0, if_pos h1]
  · intro k _
    simp only [laws_eqStringS.l0]
    rw [if_neg (by omega)]
theorem len_le_szS (l : List ByteArray) : l.length ≤ szS l := by unfold szS; omega
theorem sized_strs (l : List ByteArray) (h : szS l ≤ 1048576) : ∀ s ∈ l, s.size ≤ 1048576 := by
  intro s hs
  have key : ∀ (l : List ByteArray), s ∈ l → s.size ≤ (l.map (fun s => s.size)).sum := by
    intro l
    induction l with
    | nil => intro h; simp at h
    | cons a l ih =>
      intro h
      rcases List.mem_cons.1 h with rfl | h
      · simp
      · have := ih h
        simp only [List.map_cons, List.sum_cons]
        omega
  have := key l hs
  unfold szS at h
  omega

/-! ### NameOk -/
def nameB (s : ByteArray) (i : Int) : Bool := !(decide (bt s i < 97) || decide (bt s i > 122))
def inB (x a b : Int) : Bool := decide (a ≤ x) && decide (x ≤ b)
def nameOk (s : ByteArray) : Bool := allFrom (nameB s) s.size 0 && inB s.size 1 8
theorem spec_l1In_eq (x a b : Int) : spec_l1In.f x a b = some (inB x a b) := by
  unfold spec_l1In.f inB
  by_cases h : x ≥ a
  · rw [if_pos h, decide_eq_true (show a ≤ x from h)]; simp
  · rw [if_neg h, decide_eq_false (show ¬ a ≤ x from h)]; simp
theorem impl_in_eq (x a b : Int) : impl_in.f x a b = some (inB x a b) := by
  unfold impl_in.f inB
  by_cases h : x ≥ a
  · rw [if_pos h, decide_eq_true (show a ≤ x from h)]; simp
  · rw [if_neg h, decide_eq_false (show ¬ a ≤ x from h)]; simp
theorem name_round (s : ByteArray) (i : Int) (x : Option Bool) :
    (if (bt s i) < 97 then (some false) else (if (bt s i) > 122 then (some false) else x)) = if nameB s i = true then x else some false := by
  by_cases h1 : bt s i < 97
  · simp [nameB, h1]
  by_cases h2 : bt s i > 122
  · simp [nameB, h2]
  rw [if_neg h1, if_neg h2, if_pos (by simp [nameB, h1, h2])]
theorem spec_NameOk_eq (s : ByteArray) (hn : s.size ≤ 140737488351232) (k : Nat) (hk : s.size < k) : spec_NameOk.f k s = some (nameOk s) := by
  unfold spec_NameOk.f nameOk
  rw [all_loop hn 0 (nameB s) (fun k i => spec_NameOk.l0 k s i) (some (inB s.size 1 8)) ?_ ?_ s.size k 0 (by omega) (by omega) (by omega) (by omega)]
  · by_cases h : allFrom (nameB s) s.size 0 = true
    · simp [h]
    · simp [h]
  · intro k i _ h0 h1
    simp only [spec_NameOk.l0]
    rw [if_pos h1, if_pos h0, name_round]
  · intro k _
    simp only [spec_NameOk.l0]
    rw [if_neg (by omega), spec_l1In_eq]; rfl
theorem impl_NameOk_eq (s : ByteArray) (hn : s.size ≤ 140737488351232) (k : Nat) (hk : s.size < k) : impl_NameOk.f k s = some (nameOk s) := by
  unfold impl_NameOk.f nameOk
  rw [impl_in_eq]
  simp only [Option.bind_some]
  by_cases h12 : inB s.size 1 8 = true
  · rw [if_pos h12, h12]
    rw [all_loop hn 0 (nameB s) (fun k i => impl_NameOk.l0 k s i) (some true) ?_ ?_ s.size k 0 (by omega) (by omega) (by omega) (by omega)]
    · by_cases h : allFrom (nameB s) s.size 0 = true
      · simp [h]
      · simp [h]
    · intro k i _ h0 h1
      simp only [impl_NameOk.l0]
      rw [if_pos h1, if_pos h0, name_round]
    · intro k _
      simp only [impl_NameOk.l0]
      rw [if_neg (by omega)]
  · rw [if_neg h12]; simp [h12]

/-! ### InOrder -/
def orderB (l : List ByteArray) (i : Int) : Bool := Op.bytesLess (rdOf ByteArray.empty l (i - 1)).toList (rdOf ByteArray.empty l i).toList
def inOrder (l : List ByteArray) : Bool := allFrom (orderB l) (l.length - 1) 1
theorem spec_InOrder_eq (l : List ByteArray) (hl : l.length ≤ 1048576) (k : Nat) (hk : l.length < k) : spec_InOrder.f k l = some (inOrder l) := by
  unfold spec_InOrder.f inOrder
  by_cases hz : l.length = 0
  · obtain ⟨k, rfl⟩ : ∃ m, k = m + 1 := ⟨k - 1, by omega⟩
    simp only [spec_InOrder.l0]
    rw [if_neg (by omega), hz]; rfl
  · rw [all_loop_from (n := l.length) (by omega) 1 (by omega) 0 (orderB l) (fun k i => spec_InOrder.l0 k l i) (some true) ?_ ?_ (l.length - 1) k 1 (by omega) (by omega) (by omega) (by omega), bool_of_if]
    · intro k i _ h0 h1
      simp only [spec_InOrder.l0]
      rw [if_pos h1, w64 (x := i - 1) (by omega) (by omega), if_pos (by omega), if_pos (by omega), if_pos (by omega)]
      simp only [spec_Less.f, Option.bind_some]; rfl
    · intro k _
      simp only [spec_InOrder.l0]
      rw [if_neg (by omega)]
theorem impl_InOrder_eq (l : List ByteArray) (hl : l.length ≤ 1048576) (k : Nat) (hk : l.length < k) : impl_InOrder.f k l = some (inOrder l) := by
  unfold impl_InOrder.f inOrder
  by_cases hz : l.length = 0
  · obtain ⟨k, rfl⟩ : ∃ m, k = m + 1 := ⟨k - 1, by omega⟩
    simp only [impl_InOrder.l0]
    rw [if_neg (by omega), hz]; rfl
  · rw [all_loop_from (n := l.length) (by omega) 1 (by omega) 0 (orderB l) (fun k i => impl_InOrder.l0 k l i) (some true) ?_ ?_ (l.length - 1) k 1 (by omega) (by omega) (by omega) (by omega), bool_of_if]
    · intro k i _ h0 h1
      simp only [impl_InOrder.l0]
      rw [if_pos h1, w64 (x := i - 1) (by omega) (by omega), if_pos (by omega), if_pos (by omega), if_pos (by omega)]
      rfl
    · intro k _
      simp only [impl_InOrder.l0]
      rw [if_neg (by omega)]

/-! ### ByOk -/
def byB (l : List ByteArray) (i : Int) : Bool := nameOk (rdOf ByteArray.empty l i)
def byOk (l : List ByteArray) : Bool := allFrom (byB l) l.length 0 && (decide ((l.length : Int) ≤ 2) && inOrder l)
theorem rdOf_mem' (l : List ByteArray) (i : Int) (h0 : 0 ≤ i) (h1 : i < (l.length : Int)) : rdOf ByteArray.empty l i ∈ l := by
  unfold rdOf
  rw [List.getD_eq_getElem?_getD, List.getElem?_eq_getElem (by omega)]
  exact List.getElem_mem (by omega)
theorem spec_ByOk_eq (l : List ByteArray) (hl : l.length ≤ 1048576) (hs : ∀ s ∈ l, s.size ≤ 1048576) (k : Nat) (hk : 4194304 < k) : spec_ByOk.f k l = some (byOk l) := by
  unfold spec_ByOk.f byOk
  rw [all_loop (n := l.length) (by omega) 1048577 (byB l) (fun k i => spec_ByOk.l0 k l i) (some (decide ((l.length : Int) ≤ 2) && inOrder l)) ?_ ?_ l.length k 0 (by omega) (by omega) (by omega) (by omega)]
  · cases allFrom (byB l) l.length 0 <;> simp
  · intro k i hk h0 h1
    have hm := hs _ (rdOf_mem' l i h0 h1)
    simp only [spec_ByOk.l0]
    rw [if_pos h1, if_pos h0, spec_NameOk_eq _ (by omega) _ (by omega)]
    rfl
  · intro k hk
    simp only [spec_ByOk.l0]
    rw [if_neg (by omega)]
    by_cases h2 : (l.length : Int) ≤ 2
    · rw [if_pos h2, spec_InOrder_eq l hl _ (by omega), decide_eq_true h2]; rfl
    · rw [if_neg h2, decide_eq_false h2]; rfl
theorem impl_ByOk_eq (l : List ByteArray) (hl : l.length ≤ 1048576) (hs : ∀ s ∈ l, s.size ≤ 1048576) (k : Nat) (hk : 4194304 < k) : impl_ByOk.f k l = some (byOk l) := by
  unfold impl_ByOk.f byOk
  rw [all_loop (n := l.length) (by omega) 1048577 (byB l) (fun k i => impl_ByOk.l0 k l l l.length i) (some (decide ((l.length : Int) ≤ 2) && inOrder l)) ?_ ?_ l.length k 0 (by omega) (by omega) (by omega) (by omega)]
  · cases allFrom (byB l) l.length 0 <;> simp
  · intro k i hk h0 h1
    have hm := hs _ (rdOf_mem' l i h0 h1)
    simp only [impl_ByOk.l0]
    rw [if_pos h1, if_pos h0, if_pos h1, impl_NameOk_eq _ (by omega) _ (by omega)]
    rfl
  · intro k hk
    simp only [impl_ByOk.l0]
    rw [if_neg (by omega)]
    by_cases h2 : (l.length : Int) ≤ 2
    · rw [if_pos h2, impl_InOrder_eq l hl _ (by omega), decide_eq_true h2]; rfl
    · rw [if_neg h2, decide_eq_false h2]; rfl

theorem FnExactByOk (a : List ByteArray) (ha : a.length ≤ 9223372036854775807 ∧ ∀ s ∈ a, s.size ≤ 9223372036854775807) : ∃ k, laws_FnExactByOk.f k a = some true := by
  obtain ⟨m, hm⟩ : ∃ m : Nat, 4194304 < m := ⟨4194305, by omega⟩
  have hm1 : 4194304 < m + 1 := by omega
  have hm2 : 4194304 < m + 2 := by omega
  have hm11 : 4194304 < m + 1 + 1 := by omega
  refine ⟨m + 2, ?_⟩
  unfold laws_FnExactByOk.f
  obtain ⟨left1, hleft1⟩ : ∃ x, x = left' (szS a) 1048576 := ⟨_, rfl⟩
  rw [laws_szStringS_eq a ha.1 ha.2 _ (by omega) (by omega) _ (by omega), ← hleft1]
  simp only [Option.bind_some]
  by_cases hz1 : left1 < 0
  · rw [if_pos hz1]
  rw [if_neg hz1]
  have hb1 : ((szS a : Nat) : Int) ≤ 1048576 := left_ge (by omega) (by rw [← hleft1]; exact hz1)
  have hc1 : left1 ≤ 1048576 := by rw [hleft1]; exact left_le (by omega)
  clear hleft1
  have la : a.length ≤ 1048576 := by have := len_le_szS a; omega
  have za := sized_strs a (by omega)
  have ta : ∀ k, 4194304 < k → laws_toStringS.f k a = some a := fun k hk => laws_toStringS_eq a la k (by omega)
  have ea : ∀ k, 4194304 < k → laws_eqStringS.f k a a = some true := fun k hk => laws_eqStringS_refl _ (by omega) k (by omega)
  have sF : ∀ k, 4194304 < k → spec_ByOk.f k a = some (byOk a) := fun k hk => spec_ByOk_eq a (by omega) za k hk
  have iF : ∀ k, 4194304 < k → impl_ByOk.f k a = some (byOk a) := fun k hk => impl_ByOk_eq a (by omega) za k hk
  simp only [sF, iF, ta, ea, hm, hm1, hm2, hm11, Option.bind_some, bne_self_eq_false, beq_self_eq_true, if_true, Bool.false_eq_true, if_false, Bool.not_true, Bool.not_false]

end Go.Proofs.Ytglefglknlcojaa.Pure
