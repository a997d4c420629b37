/- Of drawn alarms: what is together is of one key; each alarm's key is among the keys, and these are all unlike: for every draw; no conditions. -/
import Derived.Test.YtgindocfjoalhabPFnKeysx8
import Derived.Test.YtgindocfjoalhabM0
import Derived.Test.YtgindocfjoalhabM1
import Derived.Test.YtgindocfjoalhabM2
import Derived.Test.YtgindocfjoalhabM3
import Derived.Test.YtgindocfjoalhabM4
import Derived.Test.YtgindocfjoalhabM5
set_option linter.unusedVariables false
set_option linter.unusedSimpArgs false
namespace Go.Proofs.Ytgindocfjoalhab.Pure
open Go.RowKit Go.Proofs.Ytgindocfjoalhab.PFnKeys Go.Proofs.YtgindocfjoalhabW.PrintWords Go.Proofs.YtgindocfjoalhabW.PrintLast Go.Proofs.Ytgindocfjoalhab.M0 Go.Proofs.Ytgindocfjoalhab.M1 Go.Proofs.Ytgindocfjoalhab.M2 Go.Proofs.Ytgindocfjoalhab.M3 Go.Proofs.Ytgindocfjoalhab.M4 Go.Proofs.Ytgindocfjoalhab.M5

/-! ### Project -/
def hasHit (s : ByteArray) (x : ByteArray) : Option Bool := if x.toList = s.toList then some true else none
def hasText (l : List ByteArray) (s : ByteArray) : Bool := seek (hasHit s) false l
theorem spec_l5Has_eq (l : List ByteArray) (hl : l.length ≤ 140737488351232) (s : ByteArray) (k : Nat) (hk : l.length < k) : spec_l5Has.f k l s = some (hasText l s) := by
  unfold spec_l5Has.f hasText
  have h := seek_loop l hl ByteArray.empty (hasHit s) false 0 (fun k i => spec_l5Has.l0 k l s i) ?_ ?_ l.length k 0 (by omega) (by omega) (by omega)
  · exact h
  · intro k i _ h0 h1
    simp only [spec_l5Has.l0, hasHit]
    rw [if_pos h1, if_pos h0]
    show (if (l.getD i.toNat ByteArray.empty).toList = s.toList then _ else _) = _
    split <;> rfl
  · intro k _
    simp only [spec_l5Has.l0]
    rw [if_neg (by omega)]
theorem impl_hasText_eq (l : List ByteArray) (hl : l.length ≤ 140737488351232) (s : ByteArray) (k : Nat) (hk : l.length < k) : impl_hasText.f k l s = some (hasText l s) := by
  unfold impl_hasText.f hasText
  have h := seek_loop l hl ByteArray.empty (hasHit s) false 0 (fun k i => impl_hasText.l0 k s l l.length i) ?_ ?_ l.length k 0 (by omega) (by omega) (by omega)
  · exact h
  · intro k i _ h0 h1
    simp only [impl_hasText.l0, hasHit]
    rw [if_pos h1, if_pos h0, if_pos h1]
    show (if (l.getD i.toNat ByteArray.empty).toList = s.toList then _ else _) = _
    split <;> rfl
  · intro k _
    simp only [impl_hasText.l0]
    rw [if_neg (by omega)]
def keepL (bys : List ByteArray) (x : S86) : List S86 := if hasText bys x.f0 = true then [x] else []
def project (l : List S86) (bys : List ByteArray) : List S86 := l.flatMap (keepL bys)
theorem keepL_le (bys : List ByteArray) (x : S86) : (keepL bys x).length ≤ 1 := by unfold keepL; split <;> simp
theorem project_le (l : List S86) (bys : List ByteArray) : (project l bys).length ≤ l.length := by
  unfold project
  induction l with
  | nil => simp
  | cons x l ih =>
    have := keepL_le bys x
    simp only [List.flatMap_cons, List.length_append, List.length_cons]
    omega
theorem project_mem (l : List S86) (bys : List ByteArray) (x : S86) (h : x ∈ project l bys) : x ∈ l := by
  unfold project at h
  obtain ⟨y, hy, hx⟩ := List.mem_flatMap.1 h
  unfold keepL at hx
  split at hx
  · rw [List.mem_singleton.1 hx]; exact hy
  · simp at hx
theorem spec_Project_eq (l : List S86) (bys : List ByteArray) (hl : l.length ≤ 1048576) (hb : bys.length ≤ 1048576) (k : Nat) (hk : 4194304 < k) : spec_Project.f k l bys = some (project l bys) := by
  unfold spec_Project.f project
  have h := keep_loop l (by omega) z86 (keepL bys) (keepL_le bys) 1048577 (fun k out i => spec_Project.l0 k l bys out i) ?_ ?_ l.length k 0 [] (by omega) (by omega) (by simp) (by omega)
  · simpa using h
  · intro k i out hk h0 h1 ho
    simp only [spec_Project.l0]
    rw [if_pos h1, if_pos h0, spec_l5Has_eq bys (by omega) _ k (by omega)]
    simp only [Option.bind_some]
    show (if hasText bys (l.getD i.toNat z86).f0 = true then _ else _) = _
    unfold keepL
    by_cases hh : hasText bys (l.getD i.toNat z86).f0 = true
    · rw [if_pos hh, if_pos hh, if_pos (by omega)]; rfl
    · rw [if_neg hh, if_neg hh, List.append_nil]
  · intro k out _
    simp only [spec_Project.l0]
    rw [if_neg (by omega)]
theorem impl_Project_eq (l : List S86) (bys : List ByteArray) (hl : l.length ≤ 1048576) (hb : bys.length ≤ 1048576) (k : Nat) (hk : 4194304 < k) : impl_Project.f k l bys = some (project l bys) := by
  unfold impl_Project.f project
  have h := keep_loop l (by omega) z86 (keepL bys) (keepL_le bys) 1048577 (fun k out i => impl_Project.l0 k bys out l l.length i) ?_ ?_ l.length k 0 [] (by omega) (by omega) (by simp) (by omega)
  · simpa using h
  · intro k i out hk h0 h1 ho
    simp only [impl_Project.l0]
    rw [if_pos h1, if_pos h0, if_pos h1, impl_hasText_eq bys (by omega) _ k (by omega)]
    simp only [Option.bind_some]
    show (if hasText bys (l.getD i.toNat z86).f0 = true then _ else _) = _
    unfold keepL
    by_cases hh : hasText bys (l.getD i.toNat z86).f0 = true
    · rw [if_pos hh, if_pos hh, if_pos (by omega)]; rfl
    · rw [if_neg hh, if_neg hh, List.append_nil]
  · intro k out _
    simp only [impl_Project.l0]
    rw [if_neg (by omega)]

/-! ### KeyOf -/
theorem spec_KeyOf_eq (l : List S86) (s e : Int) (n : ByteArray) (bys : List ByteArray) (hl : l.length ≤ 1048576) (hb : bys.length ≤ 1048576) (k : Nat) (hk : 4194304 < k) : spec_KeyOf.f k l s e n bys = some (project l bys) := by
  unfold spec_KeyOf.f
  rw [spec_Project_eq l bys hl hb k hk]; rfl
theorem impl_KeyOf_eq (l : List S86) (s e : Int) (n : ByteArray) (bys : List ByteArray) (hl : l.length ≤ 1048576) (hb : bys.length ≤ 1048576) (k : Nat) (hk : 4194304 < k) : impl_KeyOf.f k l s e n bys = some (project l bys) := by
  unfold impl_KeyOf.f
  rw [impl_Project_eq l bys hl hb k hk]; rfl

/-! ### SameSet -/
def labEq (x y : S86) : Bool := (x.f0.toList == y.f0.toList) && (x.f1.toList == y.f1.toList)
def sameB (a b : List S86) (i : Int) : Bool := labEq (rd_T86 a i) (rd_T86 b i)
def sameSet (a b : List S86) : Bool := decide (a.length = b.length) && allFrom (sameB a b) a.length 0
theorem same_round (a b : List S86) (i : Int) (x : Option Bool) :
    (if (!((((rd_T86 a i).f0).toList) == (((rd_T86 b i).f0).toList)) || (!((((rd_T86 a i).f1).toList) == (((rd_T86 b i).f1).toList)))) = true then (some false) else x) = if sameB a b i = true then x else some false := by
  unfold sameB labEq
  cases ((rd_T86 a i).f0.toList == (rd_T86 b i).f0.toList) <;> cases ((rd_T86 a i).f1.toList == (rd_T86 b i).f1.toList) <;> simp
theorem spec_SameSet_eq (a b : List S86) (ha : a.length ≤ 140737488351232) (k : Nat) (hk : a.length < k) : spec_SameSet.f k a b = some (sameSet a b) := by
  unfold spec_SameSet.f sameSet
  by_cases h : a.length = b.length
  · rw [if_pos (by omega), decide_eq_true h, Bool.true_and]
    rw [all_loop (n := a.length) ha 0 (sameB a b) (fun k i => spec_SameSet.l0 k a b i) (some true) ?_ ?_ a.length k 0 (by omega) (by omega) (by omega) (by omega), bool_of_if]
    · intro k i _ h0 h1
      simp only [spec_SameSet.l0]
      rw [if_pos h1, if_pos h0, if_pos (by omega), same_round]
    · intro k _
      simp only [spec_SameSet.l0]
      rw [if_neg (by omega)]
  · rw [if_neg (by omega), decide_eq_false h]; rfl
theorem impl_SameSet_eq (a b : List S86) (ha : a.length ≤ 140737488351232) (k : Nat) (hk : a.length < k) : impl_SameSet.f k a b = some (sameSet a b) := by
  unfold impl_SameSet.f sameSet
  by_cases h : a.length = b.length
  · rw [if_pos (by omega), decide_eq_true h, Bool.true_and]
    rw [all_loop (n := a.length) ha 0 (sameB a b) (fun k i => impl_SameSet.l0 k a b a.length i) (some true) ?_ ?_ a.length k 0 (by omega) (by omega) (by omega) (by omega), bool_of_if]
    · intro k i _ h0 h1
      simp only [impl_SameSet.l0]
      rw [if_pos h1, if_pos h0, if_pos h1, if_pos (by omega), same_round]
    · intro k _
      simp only [impl_SameSet.l0]
      rw [if_neg (by omega)]
  · rw [if_neg (by omega), decide_eq_false h]; rfl

/-! ### LabS -/
/-- Sizes that Go knows. -/
theorem sum_mem {α : Type} (f : α → Nat) : ∀ (l : List α) (x : α), x ∈ l → f x ≤ (l.map f).sum
  | [], x, h => by simp at h
  | a :: l, x, h => by
    rcases List.mem_cons.1 h with rfl | h
    · simp
    · have := sum_mem f l x h
      simp only [List.map_cons, List.sum_cons]
      omega

/-! ### EqL -/

/-! ### AlarmS -/

/-! ### AlarmsS -/
def OkA (a : S43) : Prop := a.f0.length ≤ 1048576 ∧ (∀ x ∈ a.f0, x.f0.size ≤ 1048576 ∧ x.f1.size ≤ 1048576) ∧ a.f3.size ≤ 1048576
def OkAs (l : List S43) : Prop := l.length ≤ 1048576 ∧ ∀ a ∈ l, OkA a
theorem rdA_mem (l : List S43) (i : Int) (h0 : 0 ≤ i) (h1 : i < (l.length : Int)) : rd_T43 l i ∈ l := by
  unfold rd_T43
  rw [List.getD_eq_getElem?_getD, List.getElem?_eq_getElem (by omega)]
  exact List.getElem_mem (by omega)

/-! ### Keys -/
/-- Is a key among these, or was it already? -/
def knownB (key : List S86) : List (List S86) → Bool → Bool
  | [], b => b
  | x :: r, b => if b = true then knownB key r true else knownB key r (sameSet x key)
/-- The keys of the alarms, each once, in the order they come. -/
def keysFrom (bys : List ByteArray) : List S43 → List (List S86) → List (List S86)
  | [], out => out
  | a :: r, out => if knownB (project a.f0 bys) out false = true then keysFrom bys r out else keysFrom bys r (out ++ [project a.f0 bys])
theorem keysFrom_length (bys : List ByteArray) : ∀ (l : List S43) (out : List (List S86)), (keysFrom bys l out).length ≤ out.length + l.length
  | [], out => by simp [keysFrom]
  | a :: r, out => by
    unfold keysFrom
    have h1 := keysFrom_length bys r out
    have h2 := keysFrom_length bys r (out ++ [project a.f0 bys])
    simp only [List.length_append, List.length_cons, List.length_nil] at h2 ⊢
    split <;> omega
theorem keysFrom_small (bys : List ByteArray) : ∀ (l : List S43) (out : List (List S86)), (∀ a ∈ l, a.f0.length ≤ 1048576) → (∀ x ∈ out, x.length ≤ 1048576) → ∀ x ∈ keysFrom bys l out, x.length ≤ 1048576
  | [], out, _, ho => ho
  | a :: r, out, hl, ho => by
    unfold keysFrom
    have h1 := keysFrom_small bys r out (fun b hb => hl b (List.mem_cons_of_mem _ hb)) ho
    have h2 := keysFrom_small bys r (out ++ [project a.f0 bys]) (fun b hb => hl b (List.mem_cons_of_mem _ hb)) (by
      intro x hx
      rcases List.mem_append.1 hx with hx | hx
      · exact ho x hx
      · rw [List.mem_singleton.1 hx]
        exact Nat.le_trans (project_le _ _) (hl a List.mem_cons_self))
    split
    · exact h1
    · exact h2
theorem impl_known_eq (k : Nat) (hk : 4194304 < k) (key : List S86) : ∀ (l : List (List S86)) (b : Bool), (∀ x ∈ l, x.length ≤ 1048576) → impl_Keys.known k key l b = some (knownB key l b)
  | [], b, _ => rfl
  | x :: r, b, hl => by
    have hr : ∀ y ∈ r, y.length ≤ 1048576 := fun y hy => hl y (List.mem_cons_of_mem _ hy)
    have hx := hl x List.mem_cons_self
    unfold impl_Keys.known knownB
    by_cases hb : b = true
    · rw [if_pos hb, if_pos hb]; exact impl_known_eq k hk key r true hr
    · rw [if_neg hb, if_neg hb, impl_SameSet_eq x key (by omega) k (by omega)]
      exact impl_known_eq k hk key r _ hr
theorem impl_Keys_go_eq (k : Nat) (hk : 4194304 < k) (bys : List ByteArray) (hb : bys.length ≤ 1048576) : ∀ (l : List S43) (out : List (List S86)), out.length + l.length ≤ 1048576 → (∀ a ∈ l, a.f0.length ≤ 1048576) → (∀ x ∈ out, x.length ≤ 1048576) → impl_Keys.go k bys l out = some (keysFrom bys l out)
  | [], out, _, _, _ => rfl
  | a :: r, out, hn, hl, ho => by
    have hr : ∀ y ∈ r, y.f0.length ≤ 1048576 := fun y hy => hl y (List.mem_cons_of_mem _ hy)
    have ha := hl a List.mem_cons_self
    simp only [List.length_cons] at hn
    unfold impl_Keys.go keysFrom
    rw [impl_KeyOf_eq _ _ _ _ bys ha hb k hk]
    simp only [Option.bind_some]
    rw [impl_known_eq k hk _ out false ho]
    simp only [Option.bind_some]
    split
    · exact impl_Keys_go_eq k hk bys hb r out (by omega) hr ho
    · rw [if_pos (by omega)]
      refine impl_Keys_go_eq k hk bys hb r _ (by simp only [List.length_append, List.length_cons, List.length_nil]; omega) hr ?_
      intro x hx
      rcases List.mem_append.1 hx with hx | hx
      · exact ho x hx
      · rw [List.mem_singleton.1 hx]
        exact Nat.le_trans (project_le _ _) ha
theorem impl_Keys_eq (l : List S43) (bys : List ByteArray) (hn : l.length ≤ 1048576) (hl : ∀ a ∈ l, a.f0.length ≤ 1048576) (hb : bys.length ≤ 1048576) (k : Nat) (hk : 4194304 < k) : impl_Keys.f k l bys = some (keysFrom bys l []) :=
  impl_Keys_go_eq k hk bys hb l [] (by simpa using hn) hl (by simp)
theorem spec_Keys_inner (l : List S43) (bys : List ByteArray) (i : Int) (key : List S86) (out : List (List S86)) (hn : out.length ≤ 1048576) (ho : ∀ x ∈ out, x.length ≤ 1048576) (d : Nat) : ∀ (k : Nat) (b : Bool) (j : Int), 0 ≤ j → j + d = (out.length : Int) → 4194304 ≤ k →
    spec_Keys.l1 (k + d + 1) l bys out i key b j = if knownB key (out.drop j.toNat) b = true then spec_Keys.l0 k l bys out (wrap64 (i + 1)) else spec_Keys.l0 k l bys (out ++ [key]) (wrap64 (i + 1)) := by
  induction d with
  | zero =>
    intro k b j h0 hd hk
    obtain rfl : j = (out.length : Int) := by omega
    rw [Nat.add_zero, spec_Keys.l1, if_neg (by omega), List.drop_eq_nil_of_le (by simp)]
    unfold knownB
    cases b
    · rw [if_neg (by simp), if_pos (by omega), if_neg (by simp)]
    · rw [if_pos rfl, if_pos rfl]
  | succ d ih =>
    intro k b j h0 hd hk
    have hdr := drop_cons ([] : List S86) out j h0 (by omega)
    have hkn : knownB key (out.drop j.toNat) b = if b = true then knownB key (out.drop (j + 1).toNat) true else knownB key (out.drop (j + 1).toNat) (sameSet (rd_L4 out j) key) := by rw [hdr]; rfl
    rw [show k + (d + 1) + 1 = (k + d + 1) + 1 by omega, spec_Keys.l1, if_pos (by omega)]
    simp only [hkn]
    clear hkn hdr
    by_cases hb : b = true
    · rw [if_pos hb, if_pos hb, w64 (x := j + 1) (by omega) (by omega)]
      exact ih k true (j + 1) (by omega) (by omega) hk
    · rw [if_neg hb, if_neg hb, if_pos h0]
      have hm : (rd_L4 out j).length ≤ 1048576 := by
        refine ho _ ?_
        unfold rd_L4
        rw [List.getD_eq_getElem?_getD, List.getElem?_eq_getElem (by omega)]
        exact List.getElem_mem (by omega)
      rw [spec_SameSet_eq _ _ (by omega) _ (by omega), w64 (x := j + 1) (by omega) (by omega)]
      simp only [Option.bind_some]
      exact ih k _ (j + 1) (by omega) (by omega) hk
theorem spec_Keys_outer (l : List S43) (bys : List ByteArray) (hn : l.length ≤ 1048576) (hl : ∀ a ∈ l, a.f0.length ≤ 1048576) (hb : bys.length ≤ 1048576) (C : Nat) (hC : C = 1048580) (d : Nat) : ∀ (k : Nat) (out : List (List S86)) (i : Int), 0 ≤ i → i + d = (l.length : Int) → out.length + d ≤ 1048576 → (∀ x ∈ out, x.length ≤ 1048576) → 4194304 + d * C < k →
    spec_Keys.l0 k l bys out i = some (keysFrom bys (l.drop i.toNat) out) := by
  induction d with
  | zero =>
    intro k out i h0 hd hm ho hk
    obtain ⟨k, rfl⟩ : ∃ m, k = m + 1 := ⟨k - 1, by omega⟩
    obtain rfl : i = (l.length : Int) := by omega
    simp only [spec_Keys.l0]
    rw [if_neg (by omega), List.drop_eq_nil_of_le (by omega)]
    rfl
  | succ d ih =>
    intro k out i h0 hd hm ho hk
    rw [Nat.succ_mul] at hk
    obtain ⟨q, rfl⟩ : ∃ q, k = q + out.length + 1 + 1 := ⟨k - out.length - 2, by omega⟩
    have ha := hl _ (rdA_mem l i h0 (by omega))
    rw [drop_cons z43 l i h0 (by omega)]
    rw [spec_Keys.l0]
    unfold keysFrom
    rw [if_pos (by omega), if_pos h0, spec_KeyOf_eq _ _ _ _ bys ha hb (q + out.length + 1) (by omega)]
    simp only [Option.bind_some]
    rw [spec_Keys_inner l bys i _ out (by omega) ho out.length q false 0 (by omega) (by omega) (by omega), w64 (x := i + 1) (by omega) (by omega)]
    simp only [Int.toNat_zero, List.drop_zero]
    show (if knownB (project (rd_T43 l i).f0 bys) out false = true then _ else _) = some (if knownB (project (rd_T43 l i).f0 bys) out false = true then _ else _)
    split
    · exact ih q out (i + 1) (by omega) (by omega) (by omega) ho (by omega)
    · refine ih q _ (i + 1) (by omega) (by omega) (by simp only [List.length_append, List.length_cons, List.length_nil]; omega) ?_ (by omega)
      intro x hx
      rcases List.mem_append.1 hx with hx | hx
      · exact ho x hx
      · rw [List.mem_singleton.1 hx]
        exact Nat.le_trans (project_le _ _) ha
theorem spec_Keys_eq (l : List S43) (bys : List ByteArray) (hn : l.length ≤ 1048576) (hl : ∀ a ∈ l, a.f0.length ≤ 1048576) (hb : bys.length ≤ 1048576) (k : Nat) (hk : 1099530000000 < k) : spec_Keys.f k l bys = some (keysFrom bys l []) := by
  unfold spec_Keys.f
  rw [spec_Keys_outer l bys hn hl hb 1048580 rfl l.length k [] 0 (by omega) (by omega) (by simpa using hn) (by simp) (by omega)]
  rfl

/-! ### Together -/
theorem spec_Together_eq (l : List S86) (s e : Int) (n : ByteArray) (l' : List S86) (s' e' : Int) (n' : ByteArray) (bys : List ByteArray) (hl : l.length ≤ 1048576) (hl' : l'.length ≤ 1048576) (hb : bys.length ≤ 1048576) (k : Nat) (hk : 4194304 < k) : spec_Together.f k l s e n l' s' e' n' bys = some (sameSet (project l bys) (project l' bys)) := by
  have := project_le l bys
  unfold spec_Together.f
  rw [spec_KeyOf_eq l s e n bys hl hb k hk, spec_KeyOf_eq l' s' e' n' bys hl' hb k hk]
  simp only [Option.bind_some]
  rw [spec_SameSet_eq _ _ (by omega) k (by omega)]; rfl
theorem impl_Together_eq (l : List S86) (s e : Int) (n : ByteArray) (l' : List S86) (s' e' : Int) (n' : ByteArray) (bys : List ByteArray) (hl : l.length ≤ 1048576) (hl' : l'.length ≤ 1048576) (hb : bys.length ≤ 1048576) (k : Nat) (hk : 4194304 < k) : impl_Together.f k l s e n l' s' e' n' bys = some (sameSet (project l bys) (project l' bys)) := by
  have := project_le l bys
  unfold impl_Together.f
  rw [impl_KeyOf_eq l s e n bys hl hb k hk, impl_KeyOf_eq l' s' e' n' bys hl' hb k hk]
  simp only [Option.bind_some]
  rw [impl_SameSet_eq _ _ (by omega) k (by omega)]; rfl

/-! ### NameOk -/
def nameB (s : ByteArray) (i : Int) : Bool := !(decide (bt s i < 97) || decide (bt s i > 122))
def inB (x a b : Int) : Bool := decide (a ≤ x) && decide (x ≤ b)
def nameOk (s : ByteArray) : Bool := allFrom (nameB s) s.size 0 && inB s.size 1 8
theorem spec_l1In_eq (x a b : Int) : spec_l1In.f x a b = some (inB x a b) := by
  unfold spec_l1In.f inB
  by_cases h : x ≥ a
  · rw [if_pos h, decide_eq_true (show a ≤ x from h)]; simp
  · rw [if_neg h, decide_eq_false (show ¬ a ≤ x from h)]; simp
theorem impl_in_eq (x a b : Int) : impl_in.f x a b = some (inB x a b) := by
  unfold impl_in.f inB
  by_cases h : x ≥ a
  · rw [if_pos h, decide_eq_true (show a ≤ x from h)]; simp
  · rw [if_neg h, decide_eq_false (show ¬ a ≤ x from h)]; simp
theorem name_round (s : ByteArray) (i : Int) (x : Option Bool) :
    (if (bt s i) < 97 then (some false) else (if (bt s i) > 122 then (some false) else x)) = if nameB s i = true then x else some false := by
  by_cases h1 : bt s i < 97
  · simp [nameB, h1]
  by_cases h2 : bt s i > 122
  · simp [nameB, h2]
  rw [if_neg h1, if_neg h2, if_pos (by simp [nameB, h1, h2])]
theorem spec_NameOk_eq (s : ByteArray) (hn : s.size ≤ 140737488351232) (k : Nat) (hk : s.size < k) : spec_NameOk.f k s = some (nameOk s) := by
  unfold spec_NameOk.f nameOk
  rw [all_loop hn 0 (nameB s) (fun k i => spec_NameOk.l0 k s i) (some (inB s.size 1 8)) ?_ ?_ s.size k 0 (by omega) (by omega) (by omega) (by omega)]
  · by_cases h : allFrom (nameB s) s.size 0 = true
    · simp [h]
    · simp [h]
  · intro k i _ h0 h1
    simp only [spec_NameOk.l0]
    rw [if_pos h1, if_pos h0, name_round]
  · intro k _
    simp only [spec_NameOk.l0]
    rw [if_neg (by omega), spec_l1In_eq]; rfl
theorem impl_NameOk_eq (s : ByteArray) (hn : s.size ≤ 140737488351232) (k : Nat) (hk : s.size < k) : impl_NameOk.f k s = some (nameOk s) := by
  unfold impl_NameOk.f nameOk
  rw [impl_in_eq]
  simp only [Option.bind_some]
  by_cases h12 : inB s.size 1 8 = true
  · rw [if_pos h12, h12]
    rw [all_loop hn 0 (nameB s) (fun k i => impl_NameOk.l0 k s i) (some true) ?_ ?_ s.size k 0 (by omega) (by omega) (by omega) (by omega)]
    · by_cases h : allFrom (nameB s) s.size 0 = true
      · simp [h]
      · simp [h]
    · intro k i _ h0 h1
      simp only [impl_NameOk.l0]
      rw [if_pos h1, if_pos h0, name_round]
    · intro k _
      simp only [impl_NameOk.l0]
      rw [if_neg (by omega)]
  · rw [if_neg h12]; simp [h12]

/-! ### InOrder -/
def orderB (l : List ByteArray) (i : Int) : Bool := Op.bytesLess (rdOf ByteArray.empty l (i - 1)).toList (rdOf ByteArray.empty l i).toList
def inOrder (l : List ByteArray) : Bool := allFrom (orderB l) (l.length - 1) 1
theorem spec_InOrder_eq (l : List ByteArray) (hl : l.length ≤ 1048576) (k : Nat) (hk : l.length < k) : spec_InOrder.f k l = some (inOrder l) := by
  unfold spec_InOrder.f inOrder
  by_cases hz : l.length = 0
  · obtain ⟨k, rfl⟩ : ∃ m, k = m + 1 := ⟨k - 1, by omega⟩
    simp only [spec_InOrder.l0]
    rw [if_neg (by omega), hz]; rfl
  · rw [all_loop_from (n := l.length) (by omega) 1 (by omega) 0 (orderB l) (fun k i => spec_InOrder.l0 k l i) (some true) ?_ ?_ (l.length - 1) k 1 (by omega) (by omega) (by omega) (by omega), bool_of_if]
    · intro k i _ h0 h1
      simp only [spec_InOrder.l0]
      rw [if_pos h1, w64 (x := i - 1) (by omega) (by omega), if_pos (by omega), if_pos (by omega), if_pos (by omega)]
      simp only [spec_Less.f, Option.bind_some]; rfl
    · intro k _
      simp only [spec_InOrder.l0]
      rw [if_neg (by omega)]
theorem impl_InOrder_eq (l : List ByteArray) (hl : l.length ≤ 1048576) (k : Nat) (hk : l.length < k) : impl_InOrder.f k l = some (inOrder l) := by
  unfold impl_InOrder.f inOrder
  by_cases hz : l.length = 0
  · obtain ⟨k, rfl⟩ : ∃ m, k = m + 1 := ⟨k - 1, by omega⟩
    simp only [impl_InOrder.l0]
    rw [if_neg (by omega), hz]; rfl
  · rw [all_loop_from (n := l.length) (by omega) 1 (by omega) 0 (orderB l) (fun k i => impl_InOrder.l0 k l i) (some true) ?_ ?_ (l.length - 1) k 1 (by omega) (by omega) (by omega) (by omega), bool_of_if]
    · intro k i _ h0 h1
      simp only [impl_InOrder.l0]
      rw [if_pos h1, w64 (x := i - 1) (by omega) (by omega), if_pos (by omega), if_pos (by omega), if_pos (by omega)]
      rfl
    · intro k _
      simp only [impl_InOrder.l0]
      rw [if_neg (by omega)]

/-! ### ByOk -/
def byB (l : List ByteArray) (i : Int) : Bool := nameOk (rdOf ByteArray.empty l i)
def byOk (l : List ByteArray) : Bool := allFrom (byB l) l.length 0 && (decide ((l.length : Int) ≤ 2) && inOrder l)
theorem rdOf_mem' (l : List ByteArray) (i : Int) (h0 : 0 ≤ i) (h1 : i < (l.length : Int)) : rdOf ByteArray.empty l i ∈ l := by
  unfold rdOf
  rw [List.getD_eq_getElem?_getD, List.getElem?_eq_getElem (by omega)]
  exact List.getElem_mem (by omega)
theorem spec_ByOk_eq (l : List ByteArray) (hl : l.length ≤ 1048576) (hs : ∀ s ∈ l, s.size ≤ 1048576) (k : Nat) (hk : 4194304 < k) : spec_ByOk.f k l = some (byOk l) := by
  unfold spec_ByOk.f byOk
  rw [all_loop (n := l.length) (by omega) 1048577 (byB l) (fun k i => spec_ByOk.l0 k l i) (some (decide ((l.length : Int) ≤ 2) && inOrder l)) ?_ ?_ l.length k 0 (by omega) (by omega) (by omega) (by omega)]
  · cases allFrom (byB l) l.length 0 <;> simp
  · intro k i hk h0 h1
    have hm := hs _ (rdOf_mem' l i h0 h1)
    simp only [spec_ByOk.l0]
    rw [if_pos h1, if_pos h0, spec_NameOk_eq _ (by omega) _ (by omega)]
    rfl
  · intro k hk
    simp only [spec_ByOk.l0]
    rw [if_neg (by omega)]
    by_cases h2 : (l.length : Int) ≤ 2
    · rw [if_pos h2, spec_InOrder_eq l hl _ (by omega), decide_eq_true h2]; rfl
    · rw [if_neg h2, decide_eq_false h2]; rfl
theorem impl_ByOk_eq (l : List ByteArray) (hl : l.length ≤ 1048576) (hs : ∀ s ∈ l, s.size ≤ 1048576) (k : Nat) (hk : 4194304 < k) : impl_ByOk.f k l = some (byOk l) := by
  unfold impl_ByOk.f byOk
  rw [all_loop (n := l.length) (by omega) 1048577 (byB l) (fun k i => impl_ByOk.l0 k l l l.length i) (some (decide ((l.length : Int) ≤ 2) && inOrder l)) ?_ ?_ l.length k 0 (by omega) (by omega) (by omega) (by omega)]
  · cases allFrom (byB l) l.length 0 <;> simp
  · intro k i hk h0 h1
    have hm := hs _ (rdOf_mem' l i h0 h1)
    simp only [impl_ByOk.l0]
    rw [if_pos h1, if_pos h0, if_pos h1, impl_NameOk_eq _ (by omega) _ (by omega)]
    rfl
  · intro k hk
    simp only [impl_ByOk.l0]
    rw [if_neg (by omega)]
    by_cases h2 : (l.length : Int) ≤ 2
    · rw [if_pos h2, impl_InOrder_eq l hl _ (by omega), decide_eq_true h2]; rfl
    · rw [if_neg h2, decide_eq_false h2]; rfl

/-! ### Cur -/
theorem l1Byte_ok (b : List Int) (i h : Int) (hc : CurOk b i) : ∃ x i' h', spec_l1Byte.f b i h = some (x, i', h') ∧ 0 ≤ x ∧ x ≤ 255 ∧ CurOk b i' := by
  obtain ⟨h0, h1, h2⟩ := hc
  unfold spec_l1Byte.f
  by_cases hi : i < (b.length : Int)
  · rw [if_pos hi, if_pos h0]
    exact ⟨_, _, _, rfl, (and255 _).1, (and255 _).2, by rw [w64 (by omega) (by omega)]; exact ⟨by omega, by omega, h2⟩⟩
  · rw [if_neg hi]
    exact ⟨_, _, _, rfl, (and255 _).1, (and255 _).2, h0, h1, h2⟩
theorem l1Below_ok (b : List Int) (i h n : Int) (hc : CurOk b i) : ∃ x i' h', spec_l1Below.f b i h n = some (x, i', h') ∧ 0 ≤ x ∧ (0 < n → x < n) ∧ CurOk b i' := by
  unfold spec_l1Below.f
  by_cases hn : n ≤ 0
  · rw [if_pos hn]
    exact ⟨_, _, _, rfl, by omega, by omega, hc⟩
  · rw [if_neg hn]
    obtain ⟨x, i1, g1, e1, hx0, hx1, c1⟩ := l1Byte_ok b i h hc
    by_cases hb : n ≤ 256
    · rw [if_pos hb, e1]
      simp only [Option.bind_some]
      rw [if_neg (by omega)]
      have := tmod_range hx0 (show 0 < n by omega)
      exact ⟨_, _, _, rfl, this.1, fun _ => this.2, c1⟩
    · obtain ⟨y, i2, g2, e2, hy0, hy1, c2⟩ := l1Byte_ok b i1 g1 c1
      obtain ⟨z, i3, g3, e3, hz0, hz1, c3⟩ := l1Byte_ok b i2 g2 c2
      rw [if_neg hb, e1]
      simp only [Option.bind_some, e2, e3]
      rw [if_neg (by omega), w64 (x := x * 65536) (by omega) (by omega), w64 (x := y * 256) (by omega) (by omega), w64 (x := x * 65536 + y * 256) (by omega) (by omega), w64 (by omega) (by omega)]
      have := tmod_range (show 0 ≤ x * 65536 + y * 256 + z by omega) (show 0 < n by omega)
      exact ⟨_, _, _, rfl, this.1, fun _ => this.2, c3⟩

/-! ### CurOnce -/
theorem l1Once_ok (b : List Int) (i h n : Int) (hc : CurOk b i) : ∃ t i' h', spec_l1Once.f b i h n = some (t, i', h') ∧ CurOk b i' := by
  obtain ⟨x, i1, h1, e, _, _, c⟩ := l1Below_ok b i h n hc
  unfold spec_l1Once.f
  rw [e]
  exact ⟨_, _, _, rfl, c⟩

/-! ### CurStr -/
theorem l1Str_ok (b : List Int) (i h : Int) (l : List ByteArray) (hl : 0 < l.length) (hc : CurOk b i) : ∃ s i' h', spec_l1Str.f b i h l = some (s, i', h') ∧ s ∈ l ∧ CurOk b i' := by
  obtain ⟨x, i1, h1, e, h0, hn, c⟩ := l1Below_ok b i h l.length hc
  unfold spec_l1Str.f
  rw [e]
  simp only [Option.bind_some]
  rw [if_pos h0, if_pos (hn (by omega))]
  exact ⟨_, _, _, rfl, rdOf_mem _ _ _ h0 (hn (by omega)), c⟩
theorem all13 (l : List ByteArray) (h : l.all (fun s => decide (s.size ≤ 13)) = true) : ∀ s ∈ l, s.size ≤ 13 := fun s hs => of_decide_eq_true (List.all_eq_true.1 h s hs)
theorem l1Str_sz (b : List Int) (i h : Int) (l : List ByteArray) (hl : 0 < l.length) (h13 : l.all (fun s => decide (s.size ≤ 13)) = true) (hc : CurOk b i) : ∃ s i' h', spec_l1Str.f b i h l = some (s, i', h') ∧ s.size ≤ 13 ∧ CurOk b i' := by
  obtain ⟨s, i', h', e, hm, c⟩ := l1Str_ok b i h l hl hc
  exact ⟨s, i', h', e, all13 l h13 s hm, c⟩

/-! ### PlainOk -/
def plainB (s : ByteArray) (i : Int) : Bool := !(decide (bt s i < 32) || decide (bt s i > 126) || decide (bt s i = 34) || decide (bt s i = 92))
def plainOk (s : ByteArray) : Bool := allFrom (plainB s) s.size 0 && decide ((s.size : Int) ≤ 12)
theorem plain_round (s : ByteArray) (i : Int) (x : Option Bool) :
    (if (bt s i) < 32 then (some false) else (if (bt s i) > 126 then (some false) else (if (bt s i) = 34 then (some false) else (if (bt s i) = 92 then (some false) else x)))) = if plainB s i = true then x else some false := by
  by_cases h1 : bt s i < 32
  · simp [plainB, h1]
  by_cases h2 : bt s i > 126
  · simp [plainB, h2]
  by_cases h3 : bt s i = 34
  · simp [plainB, h3]
  by_cases h4 : bt s i = 92
  · simp [plainB, h4]
  rw [if_neg h1, if_neg h2, if_neg h3, if_neg h4, if_pos (by simp [plainB, h1, h2, h3, h4])]

/-! ### LabelOk -/
def labelOk (a b : ByteArray) : Bool := nameOk a && plainOk b

/-! ### SetOk -/
/-- Each label's sizes. -/
def SizedL (M : Nat) (l : List S86) : Prop := ∀ x ∈ l, x.f0.size ≤ M ∧ x.f1.size ≤ M
theorem rd_mem (l : List S86) (i : Int) (h0 : 0 ≤ i) (h1 : i < (l.length : Int)) : rd_T86 l i ∈ l := by
  unfold rd_T86
  rw [List.getD_eq_getElem?_getD, List.getElem?_eq_getElem (by omega)]
  exact List.getElem_mem (by omega)
def setB (l : List S86) (i : Int) : Bool := labelOk (rd_T86 l i).f0 (rd_T86 l i).f1 && (decide (i = 0) || Op.bytesLess (rd_T86 l (i - 1)).f0.toList (rd_T86 l i).f0.toList)
def setOk (l : List S86) : Bool := allFrom (setB l) l.length 0 && decide (l.length ≤ 4)

/-! ### L2 -/
theorem sized_append (M : Nat) {a b : List S86} (ha : SizedL M a) (hb : SizedL M b) : SizedL M (a ++ b) := by
  intro x hx
  rcases List.mem_append.1 hx with h | h
  · exact ha x h
  · exact hb x h
theorem sized_one (M : Nat) {x y : ByteArray} (hx : x.size ≤ M) (hy : y.size ≤ M) : SizedL M [(⟨x, y⟩ : S86)] := by
  intro z hz
  rw [List.mem_singleton.1 hz]
  exact ⟨hx, hy⟩
theorem sized_set (M : Nat) {a : List S86} (ha : SizedL M a) (n : Nat) {x y : ByteArray} (hx : x.size ≤ M) (hy : y.size ≤ M) : SizedL M (a.set n (⟨x, y⟩ : S86)) := by
  intro z hz
  rcases List.mem_or_eq_of_mem_set hz with h | h
  · exact ha z h
  · rw [h]; exact ⟨hx, hy⟩
theorem l2Draw_l (b : List Int) (names : List ByteArray) (hn : names.length ≤ 4) (hs : ∀ s ∈ names, s.size ≤ 13) (d : Nat) : ∀ (k : Nat) (l : List S86) (j i h : Int), 0 ≤ j → j + d = (names.length : Int) → 1 ≤ l.length → l.length ≤ j + 1 → SizedL 13 l → CurOk b i → d < k →
    ∃ r i' h', spec_l2Draw.l0 k l names names.length j b i h = some (r, i', h') ∧ 1 ≤ r.length ∧ r.length ≤ names.length + 1 ∧ SizedL 13 r ∧ CurOk b i' := by
  induction d with
  | zero =>
    intro k l j i h h0 hd hl hl' hsz hc hk
    obtain ⟨k, rfl⟩ : ∃ m, k = m + 1 := ⟨k - 1, by omega⟩
    simp only [spec_l2Draw.l0]
    rw [if_neg (by omega)]
    exact ⟨_, _, _, rfl, hl, by omega, hsz, hc⟩
  | succ d ih =>
    intro k l j i h h0 hd hl hl' hsz hc hk
    obtain ⟨k, rfl⟩ : ∃ m, k = m + 1 := ⟨k - 1, by omega⟩
    simp only [spec_l2Draw.l0]
    rw [if_pos (by omega), if_pos h0, if_pos (by omega)]
    obtain ⟨t, i1, h1, e1, c1⟩ := l1Once_ok b i h 4 hc
    rw [e1]
    simp only [Option.bind_some]
    by_cases ht : t = true
    · rw [if_pos ht]
      obtain ⟨s, i2, h2, e2, hm, c2⟩ := l1Str_ok b i1 h1 (([(⟨#[49]⟩ : ByteArray), (⟨#[50]⟩ : ByteArray)] : List ByteArray)) (by decide) c1
      rw [e2]
      simp only [Option.bind_some]
      rw [if_pos (by omega), w64 (x := j + 1) (by omega) (by omega)]
      have hss : s.size ≤ 13 := by
        simp only [List.mem_cons, List.not_mem_nil, or_false] at hm
        rcases hm with rfl | rfl <;> decide
      exact ih k _ _ _ _ (by omega) (by omega) (by simp) (by simp; omega) (sized_append 13 hsz (sized_one 13 (hs _ (rdOf_mem _ _ _ h0 (by omega))) hss)) c2 (by omega)
    · rw [if_neg ht, w64 (x := j + 1) (by omega) (by omega)]
      exact ih k _ _ _ _ (by omega) (by omega) hl (by omega) hsz c1 (by omega)
theorem l2Draw_ok (b : List Int) (i h : Int) (k : Nat) (hk : 5 < k) (hc : CurOk b i) : ∃ r i' h', spec_l2Draw.f k b i h = some (r, i', h') ∧ 1 ≤ r.length ∧ r.length ≤ 4 ∧ SizedL 13 r ∧ CurOk b i' := by
  unfold spec_l2Draw.f
  obtain ⟨s, i2, h2, e2, hm, c2⟩ := l1Str_ok b i h (([(⟨#[97]⟩ : ByteArray), (⟨#[98]⟩ : ByteArray), (⟨#[99]⟩ : ByteArray)] : List ByteArray)) (by decide) hc
  have hss : s.size ≤ 13 := by
    simp only [List.mem_cons, List.not_mem_nil, or_false] at hm
    rcases hm with rfl | rfl | rfl <;> decide
  rw [e2]
  simp only [Option.bind_some]
  exact l2Draw_l b _ (by decide) (by
    intro s hs
    simp only [List.mem_cons, List.not_mem_nil, or_false] at hs
    rcases hs with rfl | rfl | rfl <;> decide) 3 k _ 0 _ _ (by omega) (by decide) (by simp) (by simp) (sized_one 13 (by decide) hss) c2 (by omega)

/-! ### L1Names -/
theorem l1Names_ok (b : List Int) (i h : Int) (hc : CurOk b i) : ∃ s i' h', spec_l1Names.f b i h = some (s, i', h') ∧ s.size ≤ 13 ∧ CurOk b i' := by
  unfold spec_l1Names.f
  obtain ⟨s, i2, h2, e2, hm, c2⟩ := l1Str_sz b i h (([(⟨#[97, 112, 112]⟩ : ByteArray), (⟨#[104, 111, 115, 116]⟩ : ByteArray), (⟨#[115, 101, 118]⟩ : ByteArray), (⟨#[122, 111, 110, 101]⟩ : ByteArray)] : List ByteArray)) (by decide) (by decide) hc
  rw [e2]
  exact ⟨_, _, _, rfl, hm, c2⟩

/-! ### L1AnyName -/
theorem l1AnyName_ok (b : List Int) (i h : Int) (hc : CurOk b i) : ∃ s i' h', spec_l1AnyName.f b i h = some (s, i', h') ∧ s.size ≤ 13 ∧ CurOk b i' := by
  unfold spec_l1AnyName.f
  obtain ⟨t, i1, h1, e1, c1⟩ := l1Once_ok b i h 2 hc
  rw [e1]
  simp only [Option.bind_some]
  by_cases ht : t = true
  · rw [if_pos ht]
    obtain ⟨s, i2, h2, e2, hm, c2⟩ := l1Names_ok b i1 h1 c1
    rw [e2]
    exact ⟨_, _, _, rfl, hm, c2⟩
  · rw [if_neg ht]
    obtain ⟨s, i2, h2, e2, hm, c2⟩ := l1Str_sz b i1 h1 (([(⟨#[]⟩ : ByteArray), (⟨#[65]⟩ : ByteArray), (⟨#[110, 105, 110, 101, 99, 104, 97, 114, 115]⟩ : ByteArray), (⟨#[101, 105, 103, 104, 116, 97, 98, 99]⟩ : ByteArray), (⟨#[97, 32, 98]⟩ : ByteArray), (⟨#[97, 49]⟩ : ByteArray)] : List ByteArray)) (by decide) (by decide) c1
    rw [e2]
    exact ⟨_, _, _, rfl, hm, c2⟩

/-! ### L1Plain -/
theorem l1Plain_ok (b : List Int) (i h : Int) (hc : CurOk b i) : ∃ s i' h', spec_l1Plain.f b i h = some (s, i', h') ∧ s.size ≤ 13 ∧ CurOk b i' := by
  unfold spec_l1Plain.f
  obtain ⟨s, i2, h2, e2, hm, c2⟩ := l1Str_sz b i h (([(⟨#[97]⟩ : ByteArray), (⟨#[98]⟩ : ByteArray), (⟨#[120, 32, 121]⟩ : ByteArray), (⟨#[]⟩ : ByteArray), (⟨#[99, 114, 105, 116]⟩ : ByteArray), (⟨#[125, 45]⟩ : ByteArray)] : List ByteArray)) (by decide) (by decide) hc
  rw [e2]
  exact ⟨_, _, _, rfl, hm, c2⟩

/-! ### L1AnyPlain -/
theorem l1AnyPlain_ok (b : List Int) (i h : Int) (hc : CurOk b i) : ∃ s i' h', spec_l1AnyPlain.f b i h = some (s, i', h') ∧ s.size ≤ 13 ∧ CurOk b i' := by
  unfold spec_l1AnyPlain.f
  obtain ⟨t, i1, h1, e1, c1⟩ := l1Once_ok b i h 2 hc
  rw [e1]
  simp only [Option.bind_some]
  by_cases ht : t = true
  · rw [if_pos ht]
    obtain ⟨s, i2, h2, e2, hm, c2⟩ := l1Plain_ok b i1 h1 c1
    rw [e2]
    exact ⟨_, _, _, rfl, hm, c2⟩
  · rw [if_neg ht]
    obtain ⟨s, i2, h2, e2, hm, c2⟩ := l1Str_sz b i1 h1 (([(⟨#[34]⟩ : ByteArray), (⟨#[92]⟩ : ByteArray), (⟨#[127]⟩ : ByteArray), (⟨#[31]⟩ : ByteArray), (⟨#[116, 119, 101, 108, 118, 101, 32, 98, 121, 116, 101, 115]⟩ : ByteArray), (⟨#[116, 104, 105, 114, 116, 101, 101, 110, 98, 121, 116, 101, 115]⟩ : ByteArray), (⟨#[126]⟩ : ByteArray), (⟨#[125]⟩ : ByteArray), (⟨#[44, 32, 98, 61]⟩ : ByteArray), (⟨#[125, 32, 49, 45, 50]⟩ : ByteArray)] : List ByteArray)) (by decide) (by decide) c1
    rw [e2]
    exact ⟨_, _, _, rfl, hm, c2⟩

/-! ### L2Any -/
theorem l2Any_ok (b : List Int) (i h : Int) (k : Nat) (hk : 5 < k) (hc : CurOk b i) : ∃ r i' h', spec_l2Any.f k b i h = some (r, i', h') ∧ r.length ≤ 8 ∧ SizedL 13 r ∧ CurOk b i' := by
  unfold spec_l2Any.f
  obtain ⟨l, i1, h1, e1, hl1, hl4, hs, c1⟩ := l2Draw_ok b i h k hk hc
  obtain ⟨x, i2, h2, e2, hx0, hx1, c2⟩ := l1Below_ok b i1 h1 10 c1
  rw [e1]
  simp only [Option.bind_some]
  rw [e2]
  simp only [Option.bind_some]
  by_cases x0 : x = 0
  · rw [if_pos x0]
    obtain ⟨s, i3, h3, e3, hs3, c3⟩ := l1AnyName_ok b i2 h2 c2
    obtain ⟨t, i4, h4, e4, hs4, c4⟩ := l1AnyPlain_ok b i3 h3 c3
    rw [e3]
    simp only [Option.bind_some]
    rw [e4]
    simp only [Option.bind_some]
    rw [if_pos (by omega)]
    exact ⟨_, _, _, rfl, by simp; omega, sized_append 13 hs (sized_one 13 hs3 hs4), c4⟩
  rw [if_neg x0]
  by_cases x1 : x = 1
  · rw [if_pos x1, if_pos (by simp; omega)]
    exact ⟨_, _, _, rfl, by simp; omega, sized_append 13 (sized_one 13 (by decide) (by decide)) hs, c2⟩
  rw [if_neg x1]
  by_cases x2 : x = 2
  · rw [if_pos x2, if_pos (by omega), if_pos (by omega)]
    have hm := hs _ (rd_mem l 0 (by omega) (by omega))
    exact ⟨_, _, _, rfl, by simp; omega, sized_append 13 hs (sized_one 13 hm.1 hm.2), c2⟩
  rw [if_neg x2]
  by_cases x3 : x = 3
  · rw [if_pos x3, if_pos (by simp; omega)]
    refine ⟨_, _, _, rfl, by simp; omega, sized_append 13 hs ?_, c2⟩
    intro z hz
    simp only [List.mem_cons, List.not_mem_nil, or_false] at hz
    rcases hz with rfl | rfl | rfl | rfl <;> exact ⟨by decide, by decide⟩
  rw [if_neg x3]
  by_cases x4 : x = 4
  · rw [if_pos x4]
    obtain ⟨t, i4, h4, e4, hs4, c4⟩ := l1AnyPlain_ok b i2 h2 c2
    have hm := hs _ (rd_mem l 0 (by omega) (by omega))
    rw [e4]
    simp only [Option.bind_some]
    rw [if_pos (by omega)]
    exact ⟨_, _, _, rfl, by simp; omega, sized_set 13 hs _ hm.1 hs4, c4⟩
  rw [if_neg x4]
  by_cases x5 : x = 5
  · rw [if_pos x5]
    exact ⟨_, _, _, rfl, by simp, fun z hz => by simp at hz, c2⟩
  rw [if_neg x5]
  exact ⟨_, _, _, rfl, by omega, hs, c2⟩

/-! ### CurInt -/
theorem l1Int_ok (b : List Int) (i h : Int) (l : List Int) (hl : 0 < l.length) (hc : CurOk b i) : ∃ s i' h', spec_l1Int.f b i h l = some (s, i', h') ∧ s ∈ l ∧ CurOk b i' := by
  obtain ⟨x, i1, h1, e, h0, hn, c⟩ := l1Below_ok b i h l.length hc
  unfold spec_l1Int.f
  rw [e]
  simp only [Option.bind_some]
  rw [if_pos h0, if_pos (hn (by omega))]
  exact ⟨_, _, _, rfl, rd_mem_int _ _ h0 (hn (by omega)), c⟩

/-! ### L1Raw -/
theorem l1Odd_ok (b : List Int) (i h : Int) (hc : CurOk b i) : ∃ x i' h', spec_l1Odd.f b i h = some (x, i', h') ∧ (-9223372036854775808 ≤ x ∧ x ≤ 9223372036854775807) ∧ CurOk b i' := by
  unfold spec_l1Odd.f
  obtain ⟨s, i2, h2, e2, hm, c2⟩ := l1Int_ok b i h (([(-1), 0, 1, 2, 255, 256, 65535, 2147483647, 2147483648, 4294967295, 4294967296, (-2147483648), 9223372036854775807, (-9223372036854775808)] : List Int)) (by decide) hc
  rw [e2]
  refine ⟨_, _, _, rfl, ?_, c2⟩
  simp only [List.mem_cons, List.not_mem_nil, or_false] at hm
  omega
theorem l1Raw_ok (b : List Int) (i h : Int) (hc : CurOk b i) : ∃ x i' h', spec_l1Raw.f b i h = some (x, i', h') ∧ (-9223372036854775808 ≤ x ∧ x ≤ 9223372036854775807) ∧ CurOk b i' := by
  unfold spec_l1Raw.f
  obtain ⟨t, i1, h1, e1, c1⟩ := l1Once_ok b i h 2 hc
  rw [e1]
  simp only [Option.bind_some]
  by_cases ht : t = true
  · rw [if_pos ht]
    obtain ⟨s, i2, h2, e2, hm, c2⟩ := l1Odd_ok b i1 h1 c1
    rw [e2]
    exact ⟨_, _, _, rfl, hm, c2⟩
  · rw [if_neg ht]
    obtain ⟨s, i2, h2, e2, hm, c2⟩ := l1Int_ok b i1 h1 (([(-1), 0, 1, 3, 99999, 100000] : List Int)) (by decide) c1
    rw [e2]
    refine ⟨_, _, _, rfl, ?_, c2⟩
    simp only [List.mem_cons, List.not_mem_nil, or_false] at hm
    omega

/-! ### CurNew -/
theorem l1New_l (b : List Int) (hb : b.length ≤ 140737488351232) (d : Nat) : ∀ (k : Nat) (x i : Int), 0 ≤ i → (b.length : Int) - i = d → d < k → ∃ h, spec_l1New.l0 k b x i = some (b, 0, h) := by
  induction d with
  | zero =>
    intro k x i h0 hd hk
    obtain ⟨k, rfl⟩ : ∃ m, k = m + 1 := ⟨k - 1, by omega⟩
    simp only [spec_l1New.l0]
    rw [if_neg (by omega)]
    exact ⟨_, rfl⟩
  | succ d ih =>
    intro k x i h0 hd hk
    obtain ⟨k, rfl⟩ : ∃ m, k = m + 1 := ⟨k - 1, by omega⟩
    simp only [spec_l1New.l0]
    rw [if_pos (by omega)]
    by_cases h4 : i < 4000
    · rw [if_pos h4, if_pos h0, w64 (x := i + 1) (by omega) (by omega)]
      exact ih k _ _ (by omega) (by omega) (by omega)
    · rw [if_neg h4]
      exact ⟨_, rfl⟩
theorem l1New_ok (b : List Int) (hb : b.length ≤ 140737488351232) (k : Nat) (hk : b.length < k) : ∃ h, spec_l1New.f k b = some (b, 0, h) ∧ CurOk b 0 := by
  obtain ⟨h, e⟩ := l1New_l b hb b.length k (wrap64 (140873 + (b.length : Int))) 0 (by omega) (by omega) hk
  exact ⟨h, e, by omega, by omega, hb⟩

/-! ### L4 -/
def wf64 (x : Int) : Prop := (Lit.int .i64 x).wf = true
theorem wf64_of (x : Int) (h0 : -9223372036854775808 ≤ x) (h1 : x ≤ 9223372036854775807) : wf64 x := by
  unfold wf64
  simp [Lit.wf, IntKind.min, IntKind.max, IntKind.signed, IntKind.bits]; omega
theorem l4Draw_ok (b : List Int) (i h : Int) (k : Nat) (hk : 5 < k) (hc : CurOk b i) : ∃ l s e n i' h', spec_l4Draw.f k b i h = some (l, s, e, n, i', h') ∧ 1 ≤ l.length ∧ l.length ≤ 8 ∧ SizedL 13 l ∧ wf64 s ∧ wf64 e ∧ n.size ≤ 13 ∧ CurOk b i' := by
  unfold spec_l4Draw.f
  obtain ⟨l, i1, h1, e1, hl1, hl4, hs, c1⟩ := l2Draw_ok b i h k hk hc
  rw [e1]
  simp only [Option.bind_some]
  obtain ⟨x, i2, h2, e2, hx0, hx1, c2⟩ := l1Below_ok b i1 h1 8 c1
  rw [e2]
  simp only [Option.bind_some]
  obtain ⟨n, i3, h3, e3, hn, c3⟩ := l1Plain_ok b i2 h2 c2
  rw [e3]
  simp only [Option.bind_some]
  obtain ⟨y, i4, h4, e4, hy, c4⟩ := l1Int_ok b i3 h3 (([0, 2, 5, 20, 60] : List Int)) (by decide) c3
  rw [e4]
  have := hx1 (by omega)
  simp only [List.mem_cons, List.not_mem_nil, or_false] at hy
  refine ⟨_, _, _, _, _, _, rfl, hl1, by omega, hs, wf64_of _ (by omega) (by omega), ?_, hn, c4⟩
  rw [w64 (by omega) (by omega)]
  exact wf64_of _ (by omega) (by omega)
theorem l4Any_ok (b : List Int) (i h : Int) (k : Nat) (hk : 5 < k) (hc : CurOk b i) : ∃ l s e n i' h', spec_l4Any.f k b i h = some (l, s, e, n, i', h') ∧ l.length ≤ 8 ∧ SizedL 13 l ∧ wf64 s ∧ wf64 e ∧ n.size ≤ 13 ∧ CurOk b i' := by
  unfold spec_l4Any.f
  obtain ⟨l, s, e, n, i1, h1, e1, hl1, hl8, hs, ws, we, hn, c1⟩ := l4Draw_ok b i h k hk hc
  rw [e1]
  simp only [Option.bind_some]
  obtain ⟨x, i2, h2, e2, hx0, hx1, c2⟩ := l1Below_ok b i1 h1 12 c1
  rw [e2]
  simp only [Option.bind_some]
  by_cases x0 : x = 0
  · rw [if_pos x0]
    obtain ⟨l', i3, h3, e3, hl3, hs3, c3⟩ := l2Any_ok b i2 h2 k hk c2
    rw [e3]
    exact ⟨_, _, _, _, _, _, rfl, hl3, hs3, ws, we, hn, c3⟩
  rw [if_neg x0]
  by_cases x1 : x = 1
  · rw [if_pos x1]
    obtain ⟨y, i3, h3, e3, hy, c3⟩ := l1Int_ok b i2 h2 (([(-1), 99999, 100000] : List Int)) (by decide) c2
    rw [e3]
    simp only [List.mem_cons, List.not_mem_nil, or_false] at hy
    exact ⟨_, _, _, _, _, _, rfl, hl8, hs, wf64_of _ (by omega) (by omega), we, hn, c3⟩
  rw [if_neg x1]
  by_cases x2 : x = 2
  · rw [if_pos x2]
    obtain ⟨y, i3, h3, e3, hy, c3⟩ := l1Raw_ok b i2 h2 c2
    rw [e3]
    exact ⟨_, _, _, _, _, _, rfl, hl8, hs, ws, wf64_of _ hy.1 hy.2, hn, c3⟩
  rw [if_neg x2]
  by_cases x3 : x = 3
  · rw [if_pos x3]
    obtain ⟨y, i3, h3, e3, hy, c3⟩ := l1AnyPlain_ok b i2 h2 c2
    rw [e3]
    exact ⟨_, _, _, _, _, _, rfl, hl8, hs, ws, we, hy, c3⟩
  rw [if_neg x3]
  exact ⟨_, _, _, _, _, _, rfl, hl8, hs, ws, we, hn, c2⟩

/-! ### DrawKeys -/
def SizedS (M : Nat) (l : List ByteArray) : Prop := ∀ s ∈ l, s.size ≤ M
theorem l5By_ok (b : List Int) (i h : Int) (hc : CurOk b i) : ∃ r i' h', spec_l5By.f b i h = some (r, i', h') ∧ r.length ≤ 4 ∧ SizedS 13 r ∧ CurOk b i' := by
  unfold spec_l5By.f
  obtain ⟨x, i1, h1, e1, hx0, hx1, c1⟩ := l1Below_ok b i h 5 hc
  rw [e1]
  simp only [Option.bind_some]
  by_cases x0 : x = 0
  · rw [if_pos x0]
    exact ⟨_, _, _, rfl, by decide, by simp [SizedS], c1⟩
  rw [if_neg x0]
  by_cases x1 : x = 1
  · rw [if_pos x1]
    exact ⟨_, _, _, rfl, by decide, all13 _ (by decide), c1⟩
  rw [if_neg x1]
  by_cases x2 : x = 2
  · rw [if_pos x2]
    exact ⟨_, _, _, rfl, by decide, all13 _ (by decide), c1⟩
  rw [if_neg x2]
  exact ⟨_, _, _, rfl, by decide, all13 _ (by decide), c1⟩
theorem l5Any_ok (b : List Int) (i h : Int) (hc : CurOk b i) : ∃ r i' h', spec_l5Any.f b i h = some (r, i', h') ∧ r.length ≤ 5 ∧ SizedS 13 r ∧ CurOk b i' := by
  unfold spec_l5Any.f
  obtain ⟨r, i1, h1, e1, hl, hs, c1⟩ := l5By_ok b i h hc
  rw [e1]
  simp only [Option.bind_some]
  obtain ⟨t, i2, h2, e2, c2⟩ := l1Once_ok b i1 h1 4 c1
  rw [e2]
  simp only [Option.bind_some]
  by_cases ht : t = true
  · rw [if_pos ht]
    obtain ⟨s, i3, h3, e3, hs3, c3⟩ := l1AnyName_ok b i2 h2 c2
    rw [e3]
    simp only [Option.bind_some]
    rw [if_pos (by omega)]
    refine ⟨_, _, _, rfl, by simp; omega, ?_, c3⟩
    intro z hz
    rcases List.mem_append.1 hz with hz | hz
    · exact hs z hz
    · rw [List.mem_singleton.1 hz]; exact hs3
  · rw [if_neg ht]
    exact ⟨_, _, _, rfl, by omega, hs, c2⟩
theorem l5List_l (b : List Int) (d : Nat) : ∀ (k : Nat) (out : List S43) (x i h : Int), 0 ≤ x → x = (d : Int) → out.length + d ≤ 8 → (∀ a ∈ out, a.f0.length ≤ 8) → CurOk b i → d + 6 < k → ∃ r i' h', spec_l5List.l0 k out x b i h = some (r, i', h') ∧ r.length ≤ 8 ∧ (∀ a ∈ r, a.f0.length ≤ 8) ∧ CurOk b i' := by
  induction d with
  | zero =>
    intro k out x i h h0 hx hn ho hc hk
    obtain ⟨k, rfl⟩ : ∃ m, k = m + 1 := ⟨k - 1, by omega⟩
    simp only [spec_l5List.l0]
    rw [if_neg (by omega)]
    exact ⟨_, _, _, rfl, by omega, ho, hc⟩
  | succ d ih =>
    intro k out x i h h0 hx hn ho hc hk
    obtain ⟨k, rfl⟩ : ∃ m, k = m + 1 := ⟨k - 1, by omega⟩
    obtain ⟨l, s, e, n, i1, h1, e1, hl1, hl, hs, ws, we, hn2, c1⟩ := l4Draw_ok b i h k (by omega) hc
    rw [spec_l5List.l0, if_pos (by omega), e1]
    simp only [Option.bind_some]
    rw [if_pos (by omega), w64 (by omega) (by omega)]
    refine ih k _ (x - 1) i1 h1 (by omega) (by omega) (by simp; omega) ?_ c1 (by omega)
    intro a ha
    rcases List.mem_append.1 ha with ha | ha
    · exact ho a ha
    · rw [List.mem_singleton.1 ha]; exact hl
theorem l5List_ok (b : List Int) (i h : Int) (k : Nat) (hk : 20 < k) (hc : CurOk b i) : ∃ r i' h', spec_l5List.f k b i h = some (r, i', h') ∧ r.length ≤ 8 ∧ (∀ a ∈ r, a.f0.length ≤ 8) ∧ CurOk b i' := by
  unfold spec_l5List.f
  obtain ⟨x, i1, h1, e1, hx0, hx1, c1⟩ := l1Below_ok b i h 6 hc
  have := hx1 (by omega)
  rw [e1]
  simp only [Option.bind_some]
  exact l5List_l b x.toNat k [] x i1 h1 hx0 (by omega) (by simp; omega) (by simp) c1 (by omega)
theorem DrawKeys_ok (b : List Int) (hb : b.length ≤ 140737488351232) (k : Nat) (hk : b.length + 20 < k) : ∃ l y, spec_DrawKeys.f k b = some (l, y) ∧ l.length ≤ 8 ∧ (∀ a ∈ l, a.f0.length ≤ 8) ∧ y.length ≤ 4 := by
  unfold spec_DrawKeys.f
  obtain ⟨h, e, c⟩ := l1New_ok b hb k (by omega)
  rw [e]
  simp only [Option.bind_some]
  obtain ⟨l, i1, h1, e1, hl, hs, c1⟩ := l5List_ok b 0 h k (by omega) c
  rw [e1]
  simp only [Option.bind_some]
  obtain ⟨y, i2, h2, e2, hy, _, _⟩ := l5By_ok b i1 h1 c1
  rw [e2]
  exact ⟨_, _, rfl, hl, hs, hy⟩
theorem DrawTogether_ok (b : List Int) (hb : b.length ≤ 140737488351232) (k : Nat) (hk : b.length + 20 < k) : ∃ l s e n l' s' e' n' y, spec_DrawTogether.f k b = some (l, s, e, n, l', s', e', n', y) ∧ l.length ≤ 8 ∧ l'.length ≤ 8 ∧ y.length ≤ 4 := by
  unfold spec_DrawTogether.f
  obtain ⟨h, e, c⟩ := l1New_ok b hb k (by omega)
  rw [e]
  simp only [Option.bind_some]
  obtain ⟨l, s, en, n, i1, h1, e1, hl1, hl, hs, ws, we, hn2, c1⟩ := l4Draw_ok b 0 h k (by omega) c
  rw [e1]
  simp only [Option.bind_some]
  obtain ⟨l', s', en', n', i2, h2, e2, hl1', hl', hs', ws', we', hn2', c2⟩ := l4Draw_ok b i1 h1 k (by omega) c1
  rw [e2]
  simp only [Option.bind_some]
  obtain ⟨y, i3, h3, e3, hy, _, _⟩ := l5By_ok b i2 h2 c2
  rw [e3]
  exact ⟨_, _, _, _, _, _, _, _, _, rfl, hl, hl', hy⟩
theorem DrawProject_ok (b : List Int) (hb : b.length ≤ 140737488351232) (k : Nat) (hk : b.length + 20 < k) : ∃ l y, spec_DrawProject.f k b = some (l, y) ∧ l.length ≤ 8 ∧ y.length ≤ 5 := by
  unfold spec_DrawProject.f
  obtain ⟨h, e, c⟩ := l1New_ok b hb k (by omega)
  rw [e]
  simp only [Option.bind_some]
  obtain ⟨l, i1, h1, e1, hl, hs, c1⟩ := l2Any_ok b 0 h k (by omega) c
  rw [e1]
  simp only [Option.bind_some]
  obtain ⟨y, i2, h2, e2, hy, _, _⟩ := l5Any_ok b i1 h1 c1
  rw [e2]
  exact ⟨_, _, rfl, hl, hy⟩
theorem DrawByOk_ok (b : List Int) (hb : b.length ≤ 140737488351232) (k : Nat) (hk : b.length + 20 < k) : ∃ y, spec_DrawByOk.f k b = some y ∧ y.length ≤ 5 ∧ SizedS 13 y := by
  unfold spec_DrawByOk.f
  obtain ⟨h, e, c⟩ := l1New_ok b hb k (by omega)
  rw [e]
  simp only [Option.bind_some]
  obtain ⟨y, i2, h2, e2, hy, hs, _⟩ := l5Any_ok b 0 h c
  rw [e2]
  exact ⟨_, rfl, hy, hs⟩
theorem DrawKeyOf_ok (b : List Int) (hb : b.length ≤ 140737488351232) (k : Nat) (hk : b.length + 20 < k) : ∃ l s e n y, spec_DrawKeyOf.f k b = some (l, s, e, n, y) ∧ l.length ≤ 8 ∧ y.length ≤ 5 := by
  unfold spec_DrawKeyOf.f
  obtain ⟨h, e, c⟩ := l1New_ok b hb k (by omega)
  rw [e]
  simp only [Option.bind_some]
  obtain ⟨l, s, en, n, i1, h1, e1, hl, hs, ws, we, hn2, c1⟩ := l4Any_ok b 0 h k (by omega) c
  rw [e1]
  simp only [Option.bind_some]
  obtain ⟨y, i2, h2, e2, hy, _, _⟩ := l5Any_ok b i1 h1 c1
  rw [e2]
  exact ⟨_, _, _, _, _, rfl, hl, hy⟩

theorem sameSet_self (l : List S86) : sameSet l l = true := by
  unfold sameSet
  simp [allFrom_iff, sameB, labEq]
theorem labEq_comm (x y : S86) : labEq x y = labEq y x := by
  unfold labEq
  rw [Bool.beq_comm (a := x.f0.toList), Bool.beq_comm (a := x.f1.toList)]
theorem sameSet_comm (a b : List S86) : sameSet a b = sameSet b a := by
  unfold sameSet
  by_cases h : a.length = b.length
  · have hh : sameB a b = sameB b a := by funext i; exact labEq_comm _ _
    rw [hh, h]
  · rw [decide_eq_false h, decide_eq_false (fun e => h e.symm)]; rfl
theorem project_filter (l : List S86) (bys : List ByteArray) : project l bys = l.filter (fun x => hasText bys x.f0) := by
  unfold project
  induction l with
  | nil => rfl
  | cons x l ih =>
    rw [List.flatMap_cons, ih, List.filter_cons]
    unfold keepL
    split <;> simp_all
theorem project_again (l : List S86) (bys : List ByteArray) : project (project l bys) bys = project l bys := by
  rw [project_filter l, project_filter, List.filter_filter]
  simp
theorem knownB_eq (key : List S86) : ∀ (l : List (List S86)) (b : Bool), knownB key l b = (b || l.any (fun x => sameSet x key))
  | [], b => by simp [knownB]
  | x :: l, b => by
    unfold knownB
    rw [knownB_eq key l, knownB_eq key l]
    cases b <;> simp
theorem keys_apart (bys : List ByteArray) : ∀ (l : List S43) (out : List (List S86)), out.Pairwise (fun x y => sameSet x y = false) → (keysFrom bys l out).Pairwise (fun x y => sameSet x y = false)
  | [], out, h => h
  | a :: l, out, h => by
    unfold keysFrom
    split
    · exact keys_apart bys l out h
    · next hk =>
      refine keys_apart bys l _ ?_
      rw [knownB_eq, Bool.false_or] at hk
      rw [List.pairwise_append]
      refine ⟨h, by simp, fun x hx y hy => ?_⟩
      rw [List.mem_singleton.1 hy]
      simp only [List.any_eq_true, not_exists, not_and] at hk
      exact Bool.eq_false_iff.2 (hk x hx)
theorem keys_mono (bys : List ByteArray) : ∀ (l : List S43) (out : List (List S86)), ∀ x ∈ out, x ∈ keysFrom bys l out
  | [], out, x, hx => hx
  | a :: l, out, x, hx => by
    unfold keysFrom
    split
    · exact keys_mono bys l out x hx
    · exact keys_mono bys l _ x (List.mem_append_left _ hx)
theorem keys_there (bys : List ByteArray) : ∀ (l : List S43) (out : List (List S86)), ∀ a ∈ l, ∃ x ∈ keysFrom bys l out, sameSet x (project a.f0 bys) = true
  | [], out, a, ha => by cases ha
  | c :: l, out, a, ha => by
    unfold keysFrom
    rcases List.mem_cons.1 ha with rfl | ha
    · split
      · next hk =>
        rw [knownB_eq, Bool.false_or, List.any_eq_true] at hk
        obtain ⟨x, hx, hs⟩ := hk
        exact ⟨x, keys_mono bys l out x hx, hs⟩
      · exact ⟨project a.f0 bys, keys_mono bys l _ _ (by simp), sameSet_self _⟩
    · split
      · exact keys_there bys l out a ha
      · exact keys_there bys l _ a ha
theorem FnKeys : laws_FnKeys.Pure := by
  intro b hb _ _
  obtain ⟨m, hm⟩ : ∃ m : Nat, 1099530000000 < m := ⟨1099530000001, by omega⟩
  refine ⟨m, ?_⟩
  unfold laws_FnKeys.Facts laws_big.f
  by_cases hz : (b.length : Int) > 1048576
  · exact .inl (by rw [decide_eq_true hz])
  have hz2 : b.length ≤ 1048576 := by omega
  obtain ⟨la, y, e1, hla, has, hy⟩ := DrawKeys_ok b (by omega) m (by omega)
  obtain ⟨lb, sb, eb, nb, lc, sc, ec, nc, ns, e2, hlb, hlc, hns⟩ := DrawTogether_ok b (by omega) m (by omega)
  obtain ⟨sp, pp, e3, hsp, hpp⟩ := DrawProject_ok b (by omega) m (by omega)
  obtain ⟨ob, e4, hob, sob⟩ := DrawByOk_ok b (by omega) m (by omega)
  obtain ⟨lu, su, eu, nu, vv, e5, hlu, hvv⟩ := DrawKeyOf_ok b (by omega) m (by omega)
  have hks := keysFrom_length y la []
  simp only [List.length_nil, Nat.zero_add] at hks
  have sks := keysFrom_small y la [] (fun a ha => by have := has a ha; omega) (by simp)
  have aks := keys_apart y la [] (by simp)
  have tks := keys_there y la []
  have as1 : ∀ a ∈ la, a.f0.length ≤ 1048576 := fun a ha => by have := has a ha; omega
  have ik := impl_Keys_eq la y (by omega) as1 (by omega) m (by omega)
  have sk := spec_Keys_eq la y (by omega) as1 (by omega) m (by omega)
  generalize keysFrom y la [] = ks at *
  have ssr : ∀ l : List S86, l.length ≤ 1048576 → impl_SameSet.f m l l = some true := fun l hl => by rw [impl_SameSet_eq l l (by omega) m (by omega), sameSet_self]
  have pj := project_le sp pp
  have pu := project_le lu vv
  have get : ∀ q : Nat, q < ks.length → rd_L4 ks (q : Int) ∈ ks := fun q hq => by
    unfold rd_L4
    rw [List.getD_eq_getElem?_getD, Int.toNat_natCast, List.getElem?_eq_getElem hq]
    exact List.getElem_mem hq
  have getE : ∀ (q : Nat) (hq : q < ks.length), rd_L4 ks (q : Int) = ks[q] := fun q hq => by
    unfold rd_L4
    rw [List.getD_eq_getElem?_getD, Int.toNat_natCast, List.getElem?_eq_getElem hq]
    rfl
  refine .inr ⟨la, y, ks, lb, sb, eb, nb, lc, sc, ec, nc, ns, sp, pp, project sp pp, ob, lu, su, eu, nu, vv, fun i => project (rd_T43 la (i : Int)).f0 y, fun i => ks.findIdx (fun x => sameSet x (project (rd_T43 la (i : Int)).f0 y)), sameSet (project lb ns) (project lc ns), byOk ob, project lu vv, ?_⟩
  refine ⟨by rw [decide_eq_false hz], e1, ik, e2, e3, impl_Project_eq sp pp (by omega) (by omega) m (by omega), e4, e5, impl_Together_eq lb sb eb nb lc sc ec nc ns (by omega) (by omega) (by omega) m (by omega), spec_Together_eq lb sb eb nb lc sc ec nc ns (by omega) (by omega) (by omega) m (by omega),
    spec_Project_eq sp pp (by omega) (by omega) m (by omega), ssr _ (by omega), impl_ByOk_eq ob (by omega) (fun s hs => by have := sob s hs; omega) m (by omega), spec_ByOk_eq ob (by omega) (fun s hs => by have := sob s hs; omega) m (by omega),
    impl_KeyOf_eq lu su eu nu vv (by omega) (by omega) m (by omega), spec_KeyOf_eq lu su eu nu vv (by omega) (by omega) m (by omega), ssr _ (by omega), ?_, sk, ?_, ?_, ?_, ?_, bne_self_eq_false _, bne_self_eq_false _, bne_self_eq_false _, decide_eq_true (by omega), beq_self_eq_true _⟩
  · rw [impl_Together_eq lb sb eb nb lb sb eb nb ns (by omega) (by omega) (by omega) m (by omega), sameSet_self]
  · rw [impl_Project_eq (project sp pp) pp (by omega) (by omega) m (by omega), project_again]
  · rw [impl_Together_eq lc sc ec nc lb sb eb nb ns (by omega) (by omega) (by omega) m (by omega), sameSet_comm]
  · intro p i hp hi
    have s1 := sks _ (get p (by omega))
    rw [impl_SameSet_eq _ _ (by omega) m (by omega), getE p (by omega), getE i hi, List.pairwise_iff_getElem.1 aks p i (by omega) hi hp]
  · intro i hi
    have ha : rd_T43 la (i : Int) ∈ la := rdA_mem la (i : Int) (by omega) (by omega)
    have la1 := as1 _ ha
    have hx := List.findIdx_lt_length_of_exists (tks _ ha)
    refine ⟨hx, impl_KeyOf_eq _ _ _ _ y la1 (by omega) m (by omega), fun q hq => ?_, ?_⟩
    · have hq2 : q < ks.length := Nat.lt_trans hq hx
      have s1 := sks _ (get q hq2)
      rw [impl_SameSet_eq _ _ (by omega) m (by omega), getE q hq2]
      have := List.not_of_lt_findIdx hq
      simpa using this
    · have s1 := sks _ (get _ hx)
      dsimp only
      rw [impl_SameSet_eq _ _ (by omega) m (by omega), getE _ hx]
      have := List.findIdx_getElem (w := hx)
      simpa using this

end Go.Proofs.Ytgindocfjoalhab.Pure
