/- Of drawn chains: what is put in is found there and the others are as they were; what is over and what is left are all there were; each is as the reference has it: for every draw; no conditions. -/
import Derived.Test.YtdhignbneeapiaaPFnChainsx22
import Derived.Test.YtdhignbneeapiaaM0
import Derived.Test.YtdhignbneeapiaaM1
import Derived.Test.YtdhignbneeapiaaM2
import Derived.Test.YtdhignbneeapiaaM3
import Derived.Test.YtdhignbneeapiaaM4
import Derived.Test.YtdhignbneeapiaaM5
set_option linter.unusedVariables false
set_option linter.unusedSimpArgs false
namespace Go.Proofs.Ytdhignbneeapiaa.Pure
open Go.RowKit Go.Proofs.Ytdhignbneeapiaa.PFnChains Go.Proofs.YtdhignbneeapiaaW.PrintWords Go.Proofs.YtdhignbneeapiaaW.PrintLast Go.Proofs.Ytdhignbneeapiaa.M0 Go.Proofs.Ytdhignbneeapiaa.M1 Go.Proofs.Ytdhignbneeapiaa.M2 Go.Proofs.Ytdhignbneeapiaa.M3 Go.Proofs.Ytdhignbneeapiaa.M4 Go.Proofs.Ytdhignbneeapiaa.M5

/-! ### LabS -/
/-! ### EqL -/

/-! ### AlarmS -/

/-! ### AlarmsS -/
def OkA (a : S29) : Prop := a.f0.length ≤ 1048576 ∧ (∀ x ∈ a.f0, x.f0.size ≤ 1048576 ∧ x.f1.size ≤ 1048576) ∧ a.f3.size ≤ 1048576
def OkAs (l : List S29) : Prop := l.length ≤ 1048576 ∧ ∀ a ∈ l, OkA a
theorem rdA_mem (l : List S29) (i : Int) (h0 : 0 ≤ i) (h1 : i < (l.length : Int)) : rd_T29 l i ∈ l := by
  unfold rd_T29
  rw [List.getD_eq_getElem?_getD, List.getElem?_eq_getElem (by omega)]
  exact List.getElem_mem (by omega)

/-! ### SameSet -/
def labEq (x y : S76) : Bool := (x.f0.toList == y.f0.toList) && (x.f1.toList == y.f1.toList)
def sameB (a b : List S76) (i : Int) : Bool := labEq (rd_T76 a i) (rd_T76 b i)
def sameSet (a b : List S76) : Bool := decide (a.length = b.length) && allFrom (sameB a b) a.length 0
theorem same_round (a b : List S76) (i : Int) (x : Option Bool) :
    (if (!((((rd_T76 a i).f0).toList) == (((rd_T76 b i).f0).toList)) || (!((((rd_T76 a i).f1).toList) == (((rd_T76 b i).f1).toList)))) = true then (some false) else x) = if sameB a b i = true then x else some false := by
  unfold sameB labEq
  cases ((rd_T76 a i).f0.toList == (rd_T76 b i).f0.toList) <;> cases ((rd_T76 a i).f1.toList == (rd_T76 b i).f1.toList) <;> simp
theorem spec_SameSet_eq (a b : List S76) (ha : a.length ≤ 140737488351232) (k : Nat) (hk : a.length < k) : spec_SameSet.f k a b = some (sameSet a b) := by
  unfold spec_SameSet.f sameSet
  by_cases h : a.length = b.length
  · rw [if_pos (by omega), decide_eq_true h, Bool.true_and]
    rw [all_loop (n := a.length) ha 0 (sameB a b) (fun k i => spec_SameSet.l0 k a b i) (some true) ?_ ?_ a.length k 0 (by omega) (by omega) (by omega) (by omega), bool_of_if]
    · intro k i _ h0 h1
      simp only [spec_SameSet.l0]
      rw [if_pos h1, if_pos h0, if_pos (by omega), same_round]
    · intro k _
      simp only [spec_SameSet.l0]
      rw [if_neg (by omega)]
  · rw [if_neg (by omega), decide_eq_false h]; rfl
theorem impl_SameSet_eq (a b : List S76) (ha : a.length ≤ 140737488351232) (k : Nat) (hk : a.length < k) : impl_SameSet.f k a b = some (sameSet a b) := by
  unfold impl_SameSet.f sameSet
  by_cases h : a.length = b.length
  · rw [if_pos (by omega), decide_eq_true h, Bool.true_and]
    rw [all_loop (n := a.length) ha 0 (sameB a b) (fun k i => impl_SameSet.l0 k a b a.length i) (some true) ?_ ?_ a.length k 0 (by omega) (by omega) (by omega) (by omega), bool_of_if]
    · intro k i _ h0 h1
      simp only [impl_SameSet.l0]
      rw [if_pos h1, if_pos h0, if_pos h1, if_pos (by omega), same_round]
    · intro k _
      simp only [impl_SameSet.l0]
      rw [if_neg (by omega)]
  · rw [if_neg (by omega), decide_eq_false h]; rfl

/-! ### InChain -/
def atFrom (s : List S76) : List S29 → Int → Int
  | [], _ => -1
  | a :: l, i => if sameSet a.f0 s = true then i else atFrom s l (i + 1)
def labelsAt (l : List S29) (s : List S76) : Int := atFrom s l 0
theorem spec_InChain_l (s : List S76) (f : Int) (l : List S29) (hl : OkAs l) (d : Nat) : ∀ (k : Nat) (i : Int), 0 ≤ i → i + d = (l.length : Int) → 1048577 + d < k → spec_InChain.l0 k s i f l = some (atFrom s (l.drop i.toNat) i) := by
  have hl1 := hl.1
  induction d with
  | zero =>
    intro k i h0 hd hk
    obtain ⟨k, rfl⟩ : ∃ m, k = m + 1 := ⟨k - 1, by omega⟩
    simp only [spec_InChain.l0]
    rw [if_neg (by omega), List.drop_eq_nil_of_le (by omega)]; rfl
  | succ d ih =>
    intro k i h0 hd hk
    obtain ⟨k, rfl⟩ : ∃ m, k = m + 1 := ⟨k - 1, by omega⟩
    have hm := (hl.2 _ (rdA_mem l i h0 (by omega))).1
    simp only [spec_InChain.l0]
    rw [if_pos (by omega), if_pos h0, spec_SameSet_eq _ _ (by omega) _ (by omega), drop_cons z29 l i h0 (by omega)]
    simp only [Option.bind_some, atFrom]
    show (if sameSet (l.getD i.toNat z29).f0 s = true then _ else _) = _
    by_cases h : sameSet (l.getD i.toNat z29).f0 s = true
    · rw [if_pos h, if_pos h]
    · rw [if_neg h, if_neg h, w64 (by omega) (by omega)]
      exact ih k (i + 1) (by omega) (by omega) (by omega)
theorem impl_labelsAt_l (s : List S76) (l : List S29) (hl : OkAs l) (d : Nat) : ∀ (k : Nat) (i : Int), 0 ≤ i → i + d = (l.length : Int) → 1048577 + d < k → impl_labelsAt.l0 k s l l.length i = some (atFrom s (l.drop i.toNat) i) := by
  have hl1 := hl.1
  induction d with
  | zero =>
    intro k i h0 hd hk
    obtain ⟨k, rfl⟩ : ∃ m, k = m + 1 := ⟨k - 1, by omega⟩
    simp only [impl_labelsAt.l0]
    rw [if_neg (by omega), List.drop_eq_nil_of_le (by omega)]; rfl
  | succ d ih =>
    intro k i h0 hd hk
    obtain ⟨k, rfl⟩ : ∃ m, k = m + 1 := ⟨k - 1, by omega⟩
    have hm := (hl.2 _ (rdA_mem l i h0 (by omega))).1
    simp only [impl_labelsAt.l0]
    rw [if_pos (by omega), if_pos h0, if_pos (by omega), impl_SameSet_eq _ _ (by omega) _ (by omega), drop_cons z29 l i h0 (by omega)]
    simp only [Option.bind_some, atFrom]
    show (if sameSet (l.getD i.toNat z29).f0 s = true then _ else _) = _
    by_cases h : sameSet (l.getD i.toNat z29).f0 s = true
    · rw [if_pos h, if_pos h]
    · rw [if_neg h, if_neg h, w64 (by omega) (by omega)]
      exact ih k (i + 1) (by omega) (by omega) (by omega)
theorem spec_InChain_eq (f : Int) (l : List S29) (s : List S76) (hl : OkAs l) (k : Nat) (hk : 2200000 < k) : spec_InChain.f k f l s = some (labelsAt l s) := by
  have hl1 := hl.1
  exact spec_InChain_l s f l hl l.length k 0 (by omega) (by omega) (by omega)
theorem impl_labelsAt_eq (l : List S29) (s : List S76) (hl : OkAs l) (k : Nat) (hk : 2200000 < k) : impl_labelsAt.f k l s = some (labelsAt l s) := by
  have hl1 := hl.1
  exact impl_labelsAt_l s l hl l.length k 0 (by omega) (by omega) (by omega)
theorem impl_InChain_eq (f : Int) (l : List S29) (s : List S76) (hl : OkAs l) (k : Nat) (hk : 2200000 < k) : impl_InChain.f k f l s = some (labelsAt l s) := by
  unfold impl_InChain.f
  rw [impl_labelsAt_eq l s hl k hk]; rfl

/-! ### CopyA -/
theorem impl_copySet_eq (l : List S76) (hl : l.length ≤ 1099511627776) : impl_copySet.f l = some l := by
  unfold impl_copySet.f
  rw [if_pos (by omega)]
theorem impl_copyAlarm_eq (l : List S76) (s e : Int) (n : ByteArray) (hl : l.length ≤ 1099511627776) : impl_copyAlarm.f l s e n = some (l, s, e, n) := by
  unfold impl_copyAlarm.f
  rw [impl_copySet_eq l hl]; rfl
theorem spec_l4Copy_eq (l : List S76) (s e : Int) (n : ByteArray) (hl : l.length ≤ 1099511627776) : spec_l4Copy.f l s e n = some (l, s, e, n) := by
  unfold spec_l4Copy.f
  simp only [Option.bind_some, List.length_nil, List.nil_append]
  rw [if_pos (by omega)]

/-! ### Touch -/
def touch (s e s' e' : Int) : Bool := decide (s ≤ e') && decide (s' ≤ e)
theorem spec_Touch_eq (l : List S76) (s e : Int) (n : ByteArray) (l' : List S76) (s' e' : Int) (n' : ByteArray) : spec_Touch.f l s e n l' s' e' n' = some (touch s e s' e') := by
  unfold spec_Touch.f touch
  by_cases h : s ≤ e' <;> simp [h]
theorem impl_Touch_eq (l : List S76) (s e : Int) (n : ByteArray) (l' : List S76) (s' e' : Int) (n' : ByteArray) : impl_Touch.f l s e n l' s' e' n' = some (touch s e s' e') := by
  unfold impl_Touch.f touch
  by_cases h : s ≤ e' <;> simp [h]

/-! ### Least -/
theorem spec_Least_eq (a b : Int) : spec_Least.f a b = some (mn a b) := by
  unfold spec_Least.f
  split <;> (congr 1; unfold mn; omega)

/-! ### Merge -/
def mergeStart (s e s' e' : Int) : Int := if touch s e s' e' = true then mn s s' else s'
theorem spec_Merge_eq (l : List S76) (s e : Int) (n : ByteArray) (l' : List S76) (s' e' : Int) (n' : ByteArray) (hl : l'.length ≤ 1099511627776) : spec_Merge.f l s e n l' s' e' n' = some (l', mergeStart s e s' e', e', n') := by
  unfold spec_Merge.f mergeStart
  rw [spec_l4Copy_eq l' s' e' n' hl, spec_Touch_eq]
  simp only [Option.bind_some, spec_Least_eq]
  split <;> rfl
theorem impl_Merge_eq (l : List S76) (s e : Int) (n : ByteArray) (l' : List S76) (s' e' : Int) (n' : ByteArray) (hl : l'.length ≤ 1099511627776) : impl_Merge.f l s e n l' s' e' n' = some (l', mergeStart s e s' e', e', n') := by
  unfold impl_Merge.f mergeStart
  rw [impl_copyAlarm_eq l' s' e' n' hl, impl_Touch_eq]
  simp only [Option.bind_some]
  split <;> rfl

/-! ### PutChain -/
theorem copy_flat {α : Type} (l : List α) : l.flatMap (fun a => [a]) = l := by
  induction l with
  | nil => rfl
  | cons a l ih => rw [List.flatMap_cons, ih]; rfl
theorem spec_l4All_eq (l : List S29) (hl : OkAs l) (k : Nat) (hk : 1048577 < k) : spec_l4All.f k l = some l := by
  have hl1 := hl.1
  unfold spec_l4All.f
  have h := keep_loop l (by omega) z29 (fun a => [a]) (fun _ => Nat.le_refl _) 0 (fun k out i => spec_l4All.l0 k l out i) ?_ ?_ l.length k 0 [] (by omega) (by omega) (by simp) (by omega)
  · simpa [copy_flat] using h
  · intro k i out _ h0 h1 ho
    have hm := (hl.2 _ (rdA_mem l i h0 h1)).1
    simp only [spec_l4All.l0]
    rw [if_pos h1, if_pos h0, spec_l4Copy_eq _ _ _ _ (by omega)]
    simp only [Option.bind_some]
    rw [if_pos (by omega)]
    rfl
  · intro k out _
    simp only [spec_l4All.l0]
    rw [if_neg (by omega)]
theorem impl_copyAlarms_eq (l : List S29) (hl : OkAs l) (k : Nat) (hk : 1048577 < k) : impl_copyAlarms.f k l = some l := by
  have hl1 := hl.1
  unfold impl_copyAlarms.f
  have h := keep_loop l (by omega) z29 (fun a => [a]) (fun _ => Nat.le_refl _) 0 (fun k out i => impl_copyAlarms.l0 k out l (l.length : Int) i) ?_ ?_ l.length k 0 [] (by omega) (by omega) (by simp) (by omega)
  · simpa [copy_flat] using h
  · intro k i out _ h0 h1 ho
    have hm := (hl.2 _ (rdA_mem l i h0 h1)).1
    simp only [impl_copyAlarms.l0]
    rw [if_pos h1, if_pos h0, if_pos h1, impl_copyAlarm_eq _ _ _ _ (by omega)]
    simp only [Option.bind_some]
    rw [if_pos (by omega)]
    rfl
  · intro k out _
    simp only [impl_copyAlarms.l0]
    rw [if_neg (by omega)]
theorem atFrom_lt (s : List S76) : ∀ (l : List S29) (i : Int), 0 ≤ i → atFrom s l i < 0 ∨ (i ≤ atFrom s l i ∧ atFrom s l i < i + (l.length : Int))
  | [], i, _ => Or.inl (by unfold atFrom; omega)
  | a :: l, i, h0 => by
    unfold atFrom
    have h := atFrom_lt s l (i + 1) (by omega)
    rw [List.length_cons]
    split
    · right; omega
    · rcases h with h | h
      · exact Or.inl h
      · right; omega
def merged (b : S29) (al : List S76) (s e : Int) (n : ByteArray) : S29 := ⟨al, mergeStart b.f1 b.f2 s e, e, n⟩
def putChain (f : Int) (l : List S29) (al : List S76) (s e : Int) (n : ByteArray) : Int × List S29 × Bool :=
  if labelsAt l al < 0 then (f, l ++ [⟨al, s, e, n⟩], true) else (f, l.set (labelsAt l al).toNat (merged (rd_T29 l (labelsAt l al)) al s e n), false)
theorem spec_PutChain_eq (f : Int) (l : List S29) (hl : OkAs l) (al : List S76) (ha : al.length ≤ 1048576) (s e : Int) (n : ByteArray) (k : Nat) (hk : 4194304 < k) : spec_PutChain.f k f l al s e n = some (putChain f l al s e n) := by
  have hl1 := hl.1
  unfold spec_PutChain.f spec_l6Copy.f
  rw [spec_l4All_eq l hl k (by omega), spec_InChain_eq f l al hl k (by omega)]
  simp only [Option.bind_some]
  unfold putChain
  have hlt := atFrom_lt al l 0 (by omega)
  by_cases c : labelsAt l al < 0
  · rw [if_pos c, if_pos c, spec_l4Copy_eq _ _ _ _ (by omega)]
    simp only [Option.bind_some]
    rw [if_pos (by omega)]
  · have c2 : labelsAt l al < (l.length : Int) := by unfold labelsAt at c ⊢; omega
    rw [if_neg c, if_neg c, if_pos (by omega), if_pos c2, spec_Merge_eq _ _ _ _ _ _ _ _ (by omega)]
    simp only [Option.bind_some]
    rw [if_pos c2]
    rfl
theorem impl_PutChain_eq (f : Int) (l : List S29) (hl : OkAs l) (al : List S76) (ha : al.length ≤ 1048576) (s e : Int) (n : ByteArray) (k : Nat) (hk : 4194304 < k) : impl_PutChain.f k f l al s e n = some (putChain f l al s e n) := by
  have hl1 := hl.1
  unfold impl_PutChain.f impl_copyChain.f
  rw [impl_copyAlarms_eq l hl k (by omega), impl_InChain_eq f l al hl k (by omega)]
  simp only [Option.bind_some]
  unfold putChain
  have hlt := atFrom_lt al l 0 (by omega)
  by_cases c : labelsAt l al < 0
  · rw [if_neg (by omega), if_pos c, impl_copyAlarm_eq _ _ _ _ (by omega)]
    simp only [Option.bind_some]
    rw [if_pos (by omega)]
  · have c2 : labelsAt l al < (l.length : Int) := by unfold labelsAt at c ⊢; omega
    rw [if_pos (by omega), if_neg c, if_pos (by omega), if_pos c2, impl_Merge_eq _ _ _ _ _ _ _ _ (by omega)]
    simp only [Option.bind_some]
    rw [if_pos c2]
    rfl
/-! ### DropOver -/
/-- What is not over, and what is, in order. -/
def dropTo (x : Int) : List S29 → List S29 → List S29 → List S29 × List S29
  | [], o, g => (o, g)
  | a :: r, o, g => if a.f2 ≤ x then dropTo x r o (g ++ [a]) else dropTo x r (o ++ [a]) g
theorem impl_DropOver2_go_eq (x : Int) : ∀ (l o g : List S29), o.length + l.length ≤ 1048576 → g.length + l.length ≤ 1048576 → (∀ a ∈ l, a.f0.length ≤ 1048576) → impl_DropOver2.go x l o g = some (dropTo x l o g)
  | [], o, g, _, _, _ => rfl
  | a :: r, o, g, hn, hm, hl => by
    have hr : ∀ b ∈ r, b.f0.length ≤ 1048576 := fun b hb => hl b (List.mem_cons_of_mem _ hb)
    have ha := hl a List.mem_cons_self
    simp only [List.length_cons] at hn hm
    unfold impl_DropOver2.go dropTo
    rw [show impl_Over.f a.f0 a.f1 a.f2 a.f3 x = some (decide (a.f2 ≤ x)) from rfl, impl_copyAlarm_eq _ _ _ _ (by omega)]
    simp only [Option.bind_some]
    by_cases c : a.f2 ≤ x
    · rw [if_pos (decide_eq_true c), if_pos (by omega), if_pos c]
      exact impl_DropOver2_go_eq x r o (g ++ [a]) (by omega) (by simp only [List.length_append, List.length_cons, List.length_nil]; omega) hr
    · rw [if_neg (by simpa using c), if_pos (by omega), if_neg c]
      exact impl_DropOver2_go_eq x r (o ++ [a]) g (by simp only [List.length_append, List.length_cons, List.length_nil]; omega) (by omega) hr
theorem impl_DropOver2_eq (f : Int) (l : List S29) (x : Int) (hn : l.length ≤ 1048576) (hl : ∀ a ∈ l, a.f0.length ≤ 1048576) (k : Nat) : impl_DropOver2.f k f l x = some (f, (dropTo x l [] []).1, (dropTo x l [] []).2) := by
  unfold impl_DropOver2.f
  rw [impl_DropOver2_go_eq x l [] [] (by simpa using hn) (by simpa using hn) hl]
  rfl
theorem spec_DropOver_l (f x : Int) (l : List S29) (hn : l.length ≤ 1048576) (hl : ∀ a ∈ l, a.f0.length ≤ 1048576) (d : Nat) : ∀ (k : Nat) (i : Int) (o g : List S29), 0 ≤ i → i + d = (l.length : Int) → o.length + d ≤ 1048576 → g.length + d ≤ 1048576 → d < k →
    spec_DropOver.l0 k x g i f l f o = some (f, (dropTo x (l.drop i.toNat) o g).1, (dropTo x (l.drop i.toNat) o g).2) := by
  induction d with
  | zero =>
    intro k i o g h0 hd ho hg hk
    obtain ⟨k, rfl⟩ : ∃ m, k = m + 1 := ⟨k - 1, by omega⟩
    simp only [spec_DropOver.l0]
    rw [if_neg (by omega), List.drop_eq_nil_of_le (by omega)]
    rfl
  | succ d ih =>
    intro k i o g h0 hd ho hg hk
    obtain ⟨k, rfl⟩ : ∃ m, k = m + 1 := ⟨k - 1, by omega⟩
    have ha := hl _ (rdA_mem l i h0 (by omega))
    have hdr := drop_cons z29 l i h0 (by omega)
    have e : dropTo x (l.drop i.toNat) o g = if (rd_T29 l i).f2 ≤ x then dropTo x (l.drop (i + 1).toNat) o (g ++ [rd_T29 l i]) else dropTo x (l.drop (i + 1).toNat) (o ++ [rd_T29 l i]) g := by rw [hdr]; rfl
    rw [spec_DropOver.l0, if_pos (by omega), if_pos h0, spec_l4Copy_eq _ _ _ _ (by omega)]
    simp only [Option.bind_some]
    rw [show spec_Over.f (rd_T29 l i).f0 (rd_T29 l i).f1 (rd_T29 l i).f2 (rd_T29 l i).f3 x = some (decide ((rd_T29 l i).f2 ≤ x)) from rfl, e]
    clear e hdr
    simp only [Option.bind_some]
    rw [w64 (x := i + 1) (by omega) (by omega)]
    by_cases c : (rd_T29 l i).f2 ≤ x
    · rw [if_pos (decide_eq_true c), if_pos (by omega), if_pos c]
      exact ih k (i + 1) o _ (by omega) (by omega) (by omega) (by simp only [List.length_append, List.length_cons, List.length_nil]; omega) (by omega)
    · rw [if_neg (by simpa using c), if_pos (by omega), if_neg c]
      exact ih k (i + 1) _ g (by omega) (by omega) (by simp only [List.length_append, List.length_cons, List.length_nil]; omega) (by omega) (by omega)
theorem spec_DropOver_eq (f : Int) (l : List S29) (x : Int) (hn : l.length ≤ 1048576) (hl : ∀ a ∈ l, a.f0.length ≤ 1048576) (k : Nat) (hk : 1048577 < k) : spec_DropOver.f k f l x = some (f, (dropTo x l [] []).1, (dropTo x l [] []).2) := by
  unfold spec_DropOver.f
  exact spec_DropOver_l f x l hn hl l.length k 0 [] [] (by omega) (by omega) (by simpa using hn) (by simpa using hn) (by omega)

/-! ### SameAlarm -/
def sameAlarm (l : List S76) (s e : Int) (n : ByteArray) (l' : List S76) (s' e' : Int) (n' : ByteArray) : Bool := sameSet l l' && (decide (s = s') && (decide (e = e') && (n.toList == n'.toList)))
theorem spec_SameAlarm_eq (l : List S76) (s e : Int) (n : ByteArray) (l' : List S76) (s' e' : Int) (n' : ByteArray) (hl : l.length ≤ 140737488351232) (k : Nat) (hk : l.length < k) : spec_SameAlarm.f k l s e n l' s' e' n' = some (sameAlarm l s e n l' s' e' n') := by
  unfold spec_SameAlarm.f sameAlarm
  rw [spec_SameSet_eq l l' hl k hk]
  cases sameSet l l' <;> by_cases h1 : s = s' <;> by_cases h2 : e = e' <;> simp [h1, h2]
theorem impl_SameAlarm_eq (l : List S76) (s e : Int) (n : ByteArray) (l' : List S76) (s' e' : Int) (n' : ByteArray) (hl : l.length ≤ 140737488351232) (k : Nat) (hk : l.length < k) : impl_SameAlarm.f k l s e n l' s' e' n' = some (sameAlarm l s e n l' s' e' n') := by
  unfold impl_SameAlarm.f sameAlarm
  rw [impl_SameSet_eq l l' hl k hk]
  cases sameSet l l' <;> by_cases h1 : s = s' <;> by_cases h2 : e = e' <;> simp [h1, h2]

/-! ### SameChain -/
def sameAlB (a b : List S29) (i : Int) : Bool := sameAlarm (rd_T29 a i).f0 (rd_T29 a i).f1 (rd_T29 a i).f2 (rd_T29 a i).f3 (rd_T29 b i).f0 (rd_T29 b i).f1 (rd_T29 b i).f2 (rd_T29 b i).f3
def sameAlarms (a b : List S29) : Bool := decide (a.length = b.length) && allFrom (sameAlB a b) a.length 0
theorem spec_l4Same_eq (a b : List S29) (ha : OkAs a) (k : Nat) (hk : 2200000 < k) : spec_l4Same.f k a b = some (sameAlarms a b) := by
  have ha1 := ha.1
  unfold spec_l4Same.f sameAlarms
  by_cases h : a.length = b.length
  · rw [if_pos (by omega), decide_eq_true h, Bool.true_and]
    rw [all_loop (n := a.length) (by omega) 1048577 (sameAlB a b) (fun k i => spec_l4Same.l0 k a b i) (some true) ?_ ?_ a.length k 0 (by omega) (by omega) (by omega) (by omega), bool_of_if]
    · intro k i hk h0 h1
      have hm := (ha.2 _ (rdA_mem a i h0 h1)).1
      simp only [spec_l4Same.l0]
      rw [if_pos h1, if_pos h0, if_pos (by omega), spec_SameAlarm_eq _ _ _ _ _ _ _ _ (by omega) _ (by omega)]
      rfl
    · intro k _
      simp only [spec_l4Same.l0]
      rw [if_neg (by omega)]
  · rw [if_neg (by omega), decide_eq_false h]; rfl
theorem impl_sameAlarms_eq (a b : List S29) (ha : OkAs a) (k : Nat) (hk : 2200000 < k) : impl_sameAlarms.f k a b = some (sameAlarms a b) := by
  have ha1 := ha.1
  unfold impl_sameAlarms.f sameAlarms
  by_cases h : a.length = b.length
  · rw [if_pos (by omega), decide_eq_true h, Bool.true_and]
    rw [all_loop (n := a.length) (by omega) 1048577 (sameAlB a b) (fun k i => impl_sameAlarms.l0 k a b a.length i) (some true) ?_ ?_ a.length k 0 (by omega) (by omega) (by omega) (by omega), bool_of_if]
    · intro k i hk h0 h1
      have hm := (ha.2 _ (rdA_mem a i h0 h1)).1
      simp only [impl_sameAlarms.l0]
      rw [if_pos h1, if_pos h0, if_pos h1, if_pos (by omega), impl_SameAlarm_eq _ _ _ _ _ _ _ _ (by omega) _ (by omega)]
      rfl
    · intro k _
      simp only [impl_sameAlarms.l0]
      rw [if_neg (by omega)]
  · rw [if_neg (by omega), decide_eq_false h]; rfl
def sameChain (f : Int) (a : List S29) (g : Int) (b : List S29) : Bool := decide (f = g) && sameAlarms a b
theorem spec_SameChain_eq (f : Int) (a : List S29) (g : Int) (b : List S29) (ha : OkAs a) (k : Nat) (hk : 2200000 < k) : spec_SameChain.f k f a g b = some (sameChain f a g b) := by
  unfold spec_SameChain.f sameChain
  rw [spec_l4Same_eq a b ha k hk]
  by_cases h : f = g <;> simp [h]
theorem impl_SameChain_eq (f : Int) (a : List S29) (g : Int) (b : List S29) (ha : OkAs a) (k : Nat) (hk : 2200000 < k) : impl_SameChain.f k f a g b = some (sameChain f a g b) := by
  unfold impl_SameChain.f sameChain
  rw [impl_sameAlarms_eq a b ha k hk]
  by_cases h : f = g <;> simp [h]

/-! ### NameOk -/
def nameB (s : ByteArray) (i : Int) : Bool := !(decide (bt s i < 97) || decide (bt s i > 122))
def inB (x a b : Int) : Bool := decide (a ≤ x) && decide (x ≤ b)
def nameOk (s : ByteArray) : Bool := allFrom (nameB s) s.size 0 && inB s.size 1 8
theorem spec_l1In_eq (x a b : Int) : spec_l1In.f x a b = some (inB x a b) := by
  unfold spec_l1In.f inB
  by_cases h : x ≥ a
  · rw [if_pos h, decide_eq_true (show a ≤ x from h)]; simp
  · rw [if_neg h, decide_eq_false (show ¬ a ≤ x from h)]; simp
theorem impl_in_eq (x a b : Int) : impl_in.f x a b = some (inB x a b) := by
  unfold impl_in.f inB
  by_cases h : x ≥ a
  · rw [if_pos h, decide_eq_true (show a ≤ x from h)]; simp
  · rw [if_neg h, decide_eq_false (show ¬ a ≤ x from h)]; simp
theorem name_round (s : ByteArray) (i : Int) (x : Option Bool) :
    (if (bt s i) < 97 then (some false) else (if (bt s i) > 122 then (some false) else x)) = if nameB s i = true then x else some false := by
  by_cases h1 : bt s i < 97
  · simp [nameB, h1]
  by_cases h2 : bt s i > 122
  · simp [nameB, h2]
  rw [if_neg h1, if_neg h2, if_pos (by simp [nameB, h1, h2])]
theorem spec_NameOk_eq (s : ByteArray) (hn : s.size ≤ 140737488351232) (k : Nat) (hk : s.size < k) : spec_NameOk.f k s = some (nameOk s) := by
  unfold spec_NameOk.f nameOk
  rw [all_loop hn 0 (nameB s) (fun k i => spec_NameOk.l0 k s i) (some (inB s.size 1 8)) ?_ ?_ s.size k 0 (by omega) (by omega) (by omega) (by omega)]
  · by_cases h : allFrom (nameB s) s.size 0 = true
    · simp [h]
    · simp [h]
  · intro k i _ h0 h1
    simp only [spec_NameOk.l0]
    rw [if_pos h1, if_pos h0, name_round]
  · intro k _
    simp only [spec_NameOk.l0]
    rw [if_neg (by omega), spec_l1In_eq]; rfl
theorem impl_NameOk_eq (s : ByteArray) (hn : s.size ≤ 140737488351232) (k : Nat) (hk : s.size < k) : impl_NameOk.f k s = some (nameOk s) := by
  unfold impl_NameOk.f nameOk
  rw [impl_in_eq]
  simp only [Option.bind_some]
  by_cases h12 : inB s.size 1 8 = true
  · rw [if_pos h12, h12]
    rw [all_loop hn 0 (nameB s) (fun k i => impl_NameOk.l0 k s i) (some true) ?_ ?_ s.size k 0 (by omega) (by omega) (by omega) (by omega)]
    · by_cases h : allFrom (nameB s) s.size 0 = true
      · simp [h]
      · simp [h]
    · intro k i _ h0 h1
      simp only [impl_NameOk.l0]
      rw [if_pos h1, if_pos h0, name_round]
    · intro k _
      simp only [impl_NameOk.l0]
      rw [if_neg (by omega)]
  · rw [if_neg h12]; simp [h12]

/-! ### PlainOk -/
def plainB (s : ByteArray) (i : Int) : Bool := !(decide (bt s i < 32) || decide (bt s i > 126) || decide (bt s i = 34) || decide (bt s i = 92))
def plainOk (s : ByteArray) : Bool := allFrom (plainB s) s.size 0 && decide ((s.size : Int) ≤ 12)
theorem plain_round (s : ByteArray) (i : Int) (x : Option Bool) :
    (if (bt s i) < 32 then (some false) else (if (bt s i) > 126 then (some false) else (if (bt s i) = 34 then (some false) else (if (bt s i) = 92 then (some false) else x)))) = if plainB s i = true then x else some false := by
  by_cases h1 : bt s i < 32
  · simp [plainB, h1]
  by_cases h2 : bt s i > 126
  · simp [plainB, h2]
  by_cases h3 : bt s i = 34
  · simp [plainB, h3]
  by_cases h4 : bt s i = 92
  · simp [plainB, h4]
  rw [if_neg h1, if_neg h2, if_neg h3, if_neg h4, if_pos (by simp [plainB, h1, h2, h3, h4])]
theorem spec_PlainOk_eq (s : ByteArray) (hn : s.size ≤ 140737488351232) (k : Nat) (hk : s.size < k) : spec_PlainOk.f k s = some (plainOk s) := by
  unfold spec_PlainOk.f plainOk
  rw [all_loop hn 0 (plainB s) (fun k i => spec_PlainOk.l0 k s i) (some (decide ((s.size : Int) ≤ 12))) ?_ ?_ s.size k 0 (by omega) (by omega) (by omega) (by omega)]
  · by_cases h : allFrom (plainB s) s.size 0 = true
    · simp [h]
    · simp [h]
  · intro k i _ h0 h1
    simp only [spec_PlainOk.l0]
    rw [if_pos h1, if_pos h0, plain_round]
  · intro k _
    simp only [spec_PlainOk.l0]
    rw [if_neg (by omega)]
theorem impl_PlainOk_eq (s : ByteArray) (hn : s.size ≤ 140737488351232) (k : Nat) (hk : s.size < k) : impl_PlainOk.f k s = some (plainOk s) := by
  unfold impl_PlainOk.f plainOk
  by_cases h12 : (s.size : Int) > 12
  · rw [if_pos h12, decide_eq_false (by omega)]; simp
  · rw [if_neg h12, decide_eq_true (by omega)]
    rw [all_loop hn 0 (plainB s) (fun k i => impl_PlainOk.l0 k s i) (some true) ?_ ?_ s.size k 0 (by omega) (by omega) (by omega) (by omega)]
    · by_cases h : allFrom (plainB s) s.size 0 = true
      · simp [h]
      · simp [h]
    · intro k i _ h0 h1
      simp only [impl_PlainOk.l0]
      rw [if_pos h1, if_pos h0, plain_round]
    · intro k _
      simp only [impl_PlainOk.l0]
      rw [if_neg (by omega)]

/-! ### LabelOk -/
def labelOk (a b : ByteArray) : Bool := nameOk a && plainOk b
theorem spec_LabelOk_eq (a b : ByteArray) (ha : a.size ≤ 140737488351232) (hb : b.size ≤ 140737488351232) (k : Nat) (hk : a.size < k) (hk' : b.size < k) : spec_LabelOk.f k a b = some (labelOk a b) := by
  unfold spec_LabelOk.f labelOk
  rw [spec_NameOk_eq a ha k hk, spec_PlainOk_eq b hb k hk']
  cases nameOk a <;> simp
theorem impl_LabelOk_eq (a b : ByteArray) (ha : a.size ≤ 140737488351232) (hb : b.size ≤ 140737488351232) (k : Nat) (hk : a.size < k) (hk' : b.size < k) : impl_LabelOk.f k a b = some (labelOk a b) := by
  unfold impl_LabelOk.f labelOk
  rw [impl_NameOk_eq a ha k hk, impl_PlainOk_eq b hb k hk']
  cases nameOk a <;> simp

/-! ### SetOk -/
/-- Each label's sizes. -/
def SizedL (M : Nat) (l : List S76) : Prop := ∀ x ∈ l, x.f0.size ≤ M ∧ x.f1.size ≤ M
theorem rd_mem (l : List S76) (i : Int) (h0 : 0 ≤ i) (h1 : i < (l.length : Int)) : rd_T76 l i ∈ l := by
  unfold rd_T76
  rw [List.getD_eq_getElem?_getD, List.getElem?_eq_getElem (by omega)]
  exact List.getElem_mem (by omega)
def setB (l : List S76) (i : Int) : Bool := labelOk (rd_T76 l i).f0 (rd_T76 l i).f1 && (decide (i = 0) || Op.bytesLess (rd_T76 l (i - 1)).f0.toList (rd_T76 l i).f0.toList)
def setOk (l : List S76) : Bool := allFrom (setB l) l.length 0 && decide (l.length ≤ 4)
theorem spec_SetOk_eq (l : List S76) (hl : l.length ≤ 1048576) (M : Nat) (hM : M ≤ 1048576) (hs : SizedL M l) (k : Nat) (hk : l.length + M + 1 < k) : spec_SetOk.f k l = some (setOk l) := by
  unfold spec_SetOk.f setOk
  rw [all_loop (n := l.length) (by omega) (M + 1) (setB l) (fun k i => spec_SetOk.l0 k l i) (some (decide ((l.length : Int) ≤ 4))) ?_ ?_ l.length k 0 (by omega) (by omega) (by omega) (by omega)]
  · have e : decide ((l.length : Int) ≤ 4) = decide (l.length ≤ 4) := by rw [decide_eq_decide]; omega
    rw [e]
    cases allFrom (setB l) l.length 0 <;> simp
  · intro k i hk h0 h1
    have hm := hs _ (rd_mem l i h0 h1)
    simp only [spec_SetOk.l0]
    rw [if_pos h1, if_pos h0, spec_LabelOk_eq _ _ (by omega) (by omega) _ (by omega) (by omega)]
    simp only [Option.bind_some]
    by_cases hL : labelOk (rd_T76 l i).f0 (rd_T76 l i).f1 = true
    · rw [if_pos hL]
      by_cases hz : i = 0
      · have e : setB l i = true := by unfold setB; rw [hL, decide_eq_true hz]; rfl
        rw [if_neg (by omega), if_pos e]
      · have e : setB l i = Op.bytesLess (rd_T76 l (i - 1)).f0.toList (rd_T76 l i).f0.toList := by simp [setB, hL, hz]
        rw [if_pos (by omega), w64 (x := i - 1) (by omega) (by omega), if_pos (by omega), if_pos (by omega), e]
        simp only [spec_Less.f, Option.bind_some]
    · have e : setB l i = false := by simp [setB, hL]
      rw [if_neg hL, if_neg (by simp [e])]
  · intro k _
    simp only [spec_SetOk.l0]
    rw [if_neg (by omega)]
theorem impl_SetOk_eq (l : List S76) (hl : l.length ≤ 1048576) (M : Nat) (hM : M ≤ 1048576) (hs : SizedL M l) (k : Nat) (hk : l.length + M + 1 < k) : impl_SetOk.f k l = some (setOk l) := by
  unfold impl_SetOk.f setOk
  have key := all_loop (n := l.length) (by omega) (M + 1) (fun i => decide (i < 4) && setB l i) (fun k i => impl_SetOk.l0 k l l l.length i) (some true) ?_ ?_ l.length k 0 (by omega) (by omega) (by omega) (by omega)
  · rw [key, bool_of_if]
    congr 1
    by_cases h4 : l.length ≤ 4
    · rw [decide_eq_true h4, Bool.and_true]
      exact allFrom_congr _ _ (fun j h0 h1 => by rw [decide_eq_true (by omega)]; rfl)
    · rw [decide_eq_false h4, Bool.and_false, Bool.eq_false_iff]
      intro h
      have := (allFrom_iff _ _).mp h 4 (by omega) (by omega)
      simp at this
  · intro k i hk h0 h1
    have hm := hs _ (rd_mem l i h0 h1)
    simp only [impl_SetOk.l0]
    rw [if_pos h1, if_pos h0, if_pos h1]
    by_cases h4 : i ≥ 4
    · rw [if_pos h4, decide_eq_false (by omega)]; simp
    · rw [if_neg h4, decide_eq_true (show i < 4 by omega), impl_LabelOk_eq _ _ (by omega) (by omega) _ (by omega) (by omega)]
      simp only [Option.bind_some, Bool.true_and]
      by_cases hL : labelOk (rd_T76 l i).f0 (rd_T76 l i).f1 = true
      · rw [if_pos hL]
        by_cases hz : i = 0
        · have e : setB l i = true := by unfold setB; rw [hL, decide_eq_true hz]; rfl
          rw [if_neg (by omega), if_pos e]
        · have e : setB l i = Op.bytesLess (rd_T76 l (i - 1)).f0.toList (rd_T76 l i).f0.toList := by simp [setB, hL, hz]
          rw [if_pos (by omega), w64 (x := i - 1) (by omega) (by omega), if_pos (by omega), if_pos (by omega), e]
      · have e : setB l i = false := by simp [setB, hL]
        rw [if_neg hL, if_neg (by simp [e])]
  · intro k _
    simp only [impl_SetOk.l0]
    rw [if_neg (by omega)]

/-! ### AlarmOk -/
def alarmOk (l : List S76) (s e : Int) (note : ByteArray) : Bool := decide ((l.length : Int) > 0) && (setOk l && (inB s 0 99999 && (inB e s 99999 && plainOk note)))
theorem spec_AlarmOk_eq (l : List S76) (s e : Int) (note : ByteArray) (hl : l.length ≤ 1048576) (M : Nat) (hM : M ≤ 1048576) (hs : SizedL M l) (hn : note.size ≤ 1048576) (k : Nat) (hk : 4194304 < k) : spec_AlarmOk.f k l s e note = some (alarmOk l s e note) := by
  unfold spec_AlarmOk.f alarmOk
  rw [spec_SetOk_eq l hl M hM hs k (by omega), spec_l1In_eq, spec_l1In_eq, spec_PlainOk_eq note (by omega) k (by omega)]
  cases setOk l <;> cases inB s 0 99999 <;> cases inB e s 99999 <;> by_cases h : 0 < l.length <;> simp [h]
theorem impl_AlarmOk_eq (l : List S76) (s e : Int) (note : ByteArray) (hl : l.length ≤ 1048576) (M : Nat) (hM : M ≤ 1048576) (hs : SizedL M l) (hn : note.size ≤ 1048576) (k : Nat) (hk : 4194304 < k) : impl_AlarmOk.f k l s e note = some (alarmOk l s e note) := by
  unfold impl_AlarmOk.f alarmOk
  rw [impl_SetOk_eq l hl M hM hs k (by omega), impl_in_eq, impl_in_eq, impl_PlainOk_eq note (by omega) k (by omega)]
  cases setOk l <;> cases inB s 0 99999 <;> cases inB e s 99999 <;> by_cases h : 0 < l.length <;> simp [h]

/-! ### SetTextS -/
def txt (s : ByteArray) (x : S76) : ByteArray := (((s ++ x.f0) ++ (⟨#[61, 34]⟩ : ByteArray)) ++ x.f1) ++ (⟨#[34]⟩ : ByteArray)
def restB : List S76 → ByteArray → ByteArray
  | [], s => s ++ (⟨#[125]⟩ : ByteArray)
  | x :: l, s => restB l (txt (s ++ (⟨#[44, 32]⟩ : ByteArray)) x)
def textOf : List S76 → ByteArray
  | [] => (⟨#[123]⟩ : ByteArray) ++ (⟨#[125]⟩ : ByteArray)
  | x :: l => restB l (txt (⟨#[123]⟩ : ByteArray) x)
def setText (l : List S76) : ByteArray := if setOk l = true then textOf l else (⟨#[]⟩ : ByteArray)
theorem setOk_le (l : List S76) (h : setOk l = true) : l.length ≤ 4 := by
  unfold setOk at h
  rw [Bool.and_eq_true] at h
  exact of_decide_eq_true h.2
theorem sz2 : ∀ a : UInt8, ∀ b : UInt8, (⟨#[a, b]⟩ : ByteArray).size = 2 := fun _ _ => rfl
theorem sz1 : ∀ a : UInt8, (⟨#[a]⟩ : ByteArray).size = 1 := fun _ => rfl
theorem spec_SetText_l (l : List S76) (hl : l.length ≤ 4) (hs : SizedL 1048576 l) (d : Nat) : ∀ (k : Nat) (s : ByteArray) (i : Int), 0 < i → i + d = (l.length : Int) → s.size + d * 4194304 ≤ 1099511627776 → d < k →
    spec_SetText.l0 k l s i = some (restB (l.drop i.toNat) s) := by
  induction d with
  | zero =>
    intro k s i h0 hd hsz hk
    obtain ⟨k, rfl⟩ : ∃ m, k = m + 1 := ⟨k - 1, by omega⟩
    simp only [spec_SetText.l0]
    rw [if_neg (by omega), if_pos (by omega), List.drop_eq_nil_of_le (by omega)]; rfl
  | succ d ih =>
    intro k s i h0 hd hsz hk
    obtain ⟨k, rfl⟩ : ∃ m, k = m + 1 := ⟨k - 1, by omega⟩
    have hm := hs _ (rd_mem l i (by omega) (by omega))
    simp only [spec_SetText.l0]
    rw [if_pos (by omega), if_pos (by omega), if_pos (by omega), if_pos (by omega)]
    rw [if_pos (by simp only [ByteArray.size_append, sz2, sz1]; omega), if_pos (by simp only [ByteArray.size_append, sz2, sz1]; omega), if_pos (by simp only [ByteArray.size_append, sz2, sz1]; omega), if_pos (by simp only [ByteArray.size_append, sz2, sz1]; omega)]
    rw [w64 (x := i + 1) (by omega) (by omega), drop_cons z76 l i (by omega) (by omega)]
    exact ih k _ (i + 1) (by omega) (by omega) (by simp only [ByteArray.size_append, sz2, sz1]; omega) (by omega)
theorem spec_SetText_eq (l : List S76) (hl : l.length ≤ 1048576) (hs : SizedL 1048576 l) (k : Nat) (hk : 4194304 < k) : spec_SetText.f k l = some (setText l) := by
  unfold spec_SetText.f setText
  rw [spec_SetOk_eq l hl 1048576 (by omega) hs k (by omega)]
  simp only [Option.bind_some]
  by_cases h : setOk l = true
  · rw [if_pos h, if_pos h]
    have h4 := setOk_le l h
    obtain ⟨k, rfl⟩ : ∃ m, k = m + 1 := ⟨k - 1, by omega⟩
    cases l with
    | nil =>
      simp only [spec_SetText.l0]
      rw [if_neg (by simp), if_pos (by decide)]; rfl
    | cons x l =>
      have hm := hs x List.mem_cons_self
      have e := spec_SetText_l (x :: l) h4 hs l.length k (txt (⟨#[123]⟩ : ByteArray) x) 1 (by omega) (by simp; omega) (by simp only [txt, ByteArray.size_append, sz2, sz1]; simp at h4; omega) (by simp at h4; omega)
      simp only [spec_SetText.l0]
      have hr : rd_T76 (x :: l) 0 = x := rfl
      rw [if_pos (by simp only [List.length_cons]; omega), if_neg (by omega), if_pos (by omega), hr]
      rw [if_pos (by simp only [ByteArray.size_append, sz2, sz1]; omega), if_pos (by simp only [ByteArray.size_append, sz2, sz1]; omega), if_pos (by simp only [ByteArray.size_append, sz2, sz1]; omega), if_pos (by simp only [ByteArray.size_append, sz2, sz1]; omega)]
      rw [w64 (x := 0 + 1) (by omega) (by omega)]
      exact e
  · rw [if_neg h, if_neg h]

/-! ### SetText -/
def txt1 (x : S76) : ByteArray := ((x.f0 ++ (⟨#[61, 34]⟩ : ByteArray)) ++ x.f1) ++ (⟨#[34]⟩ : ByteArray)
theorem impl_SetText_l (l : List S76) (hl : l.length ≤ 4) (hs : SizedL 1048576 l) (d : Nat) : ∀ (k : Nat) (out : List ByteArray) (i : Int), 0 ≤ i → i + d = (l.length : Int) → out.length ≤ i.toNat → d < k →
    impl_SetText.l0 k out l l.length i = impl_SetText.l0 (k - d) (out ++ (l.drop i.toNat).map txt1) l l.length l.length := by
  induction d with
  | zero =>
    intro k out i h0 hd ho hk
    obtain rfl : i = (l.length : Int) := by omega
    rw [List.drop_eq_nil_of_le (by omega)]
    simp
  | succ d ih =>
    intro k out i h0 hd ho hk
    obtain ⟨k, rfl⟩ : ∃ m, k = m + 1 := ⟨k - 1, by omega⟩
    have hm := hs _ (rd_mem l i (by omega) (by omega))
    rw [drop_cons z76 l i h0 (by omega), List.map_cons]
    have e : k + 1 - (d + 1) = k - d := by omega
    rw [e]
    conv => lhs; unfold impl_SetText.l0
    rw [if_pos (by omega), if_pos (by omega), if_pos (by omega)]
    rw [if_pos (by omega), if_pos (by simp only [ByteArray.size_append, sz2, sz1]; omega), if_pos (by simp only [ByteArray.size_append, sz2, sz1]; omega), if_pos (by omega)]
    rw [w64 (x := i + 1) (by omega) (by omega), ih k _ (i + 1) (by omega) (by omega) (by simp; omega) (by omega), List.append_assoc]
    rfl
theorem rest_list (l : List S76) : ∀ s : ByteArray, (restB l s).data.toList = s.data.toList ++ Lib.joinTail [44, 32] ((l.map txt1).map (·.data.toList)) ++ [125] := by
  induction l with
  | nil => intro s; simp [restB, Lib.joinTail]
  | cons x l ih =>
    intro s
    simp only [restB]
    rw [ih]
    simp [txt, txt1, Lib.joinTail]
theorem text_join (l : List S76) : ((⟨#[123]⟩ : ByteArray) ++ Foreign.joinBytes (l.map txt1) (⟨#[44, 32]⟩ : ByteArray)) ++ (⟨#[125]⟩ : ByteArray) = textOf l := by
  have hinj : ∀ a b : ByteArray, a.data.toList = b.data.toList → a = b := by
    intro a b h
    cases a
    cases b
    congr
    simpa using h
  apply hinj
  cases l with
  | nil => simp [textOf, Foreign.joinBytes, Lib.join_nil]
  | cons x l =>
    simp only [textOf]
    rw [rest_list]
    simp only [Foreign.joinBytes, List.map_cons, Lib.join_cons]
    simp [txt, txt1]
theorem sum_txt (l : List S76) (hs : SizedL 1048576 l) : (Lib.joinTail [44, 32] ((l.map txt1).map (·.data.toList))).length ≤ l.length * 4194304 := by
  induction l with
  | nil => simp [Lib.joinTail]
  | cons x l ih =>
    have hm := hs x List.mem_cons_self
    have := ih (fun y hy => hs y (List.mem_cons_of_mem _ hy))
    have e : (txt1 x).data.toList.length = x.f0.size + 2 + x.f1.size + 1 := by
      have : (txt1 x).data.toList.length = (txt1 x).size := by rw [Array.length_toList]; rfl
      rw [this]
      simp only [txt1, ByteArray.size_append, sz2, sz1]
    have e2 : (Lib.joinTail [44, 32] (((x :: l).map txt1).map (·.data.toList))).length = 2 + (txt1 x).data.toList.length + (Lib.joinTail [44, 32] ((l.map txt1).map (·.data.toList))).length := by
      simp [Lib.joinTail]
      omega
    rw [e2, e, List.length_cons, Nat.succ_mul]
    omega
theorem join_some (l : List S76) (hl : l.length ≤ 4) (hs : SizedL 1048576 l) : strings_Join.f (l.map txt1) (⟨#[44, 32]⟩ : ByteArray) = some (Foreign.joinBytes (l.map txt1) (⟨#[44, 32]⟩ : ByteArray)) ∧ (Foreign.joinBytes (l.map txt1) (⟨#[44, 32]⟩ : ByteArray)).size ≤ 1099511627776 := by
  have hlen : (Lib.join ((l.map txt1).map (·.data.toList)) (⟨#[44, 32]⟩ : ByteArray).data.toList).length ≤ 1073741824 := by
    cases l with
    | nil => simp [Lib.join_nil]
    | cons x l =>
      have hm := hs x List.mem_cons_self
      have h2 := sum_txt l (fun y hy => hs y (List.mem_cons_of_mem _ hy))
      have e : (txt1 x).data.toList.length = x.f0.size + 2 + x.f1.size + 1 := by
        have : (txt1 x).data.toList.length = (txt1 x).size := by rw [Array.length_toList]; rfl
        rw [this]
        simp only [txt1, ByteArray.size_append, sz2, sz1]
      simp only [List.map_cons, Lib.join_cons, List.length_append]
      have h3 : (Lib.joinTail (⟨#[44, 32]⟩ : ByteArray).data.toList ((l.map txt1).map (·.data.toList))).length ≤ l.length * 4194304 := h2
      rw [e]
      simp at hl
      omega
  constructor
  · unfold strings_Join.f Foreign.joinOf
    rw [if_pos ⟨by simp; omega, by omega⟩]
  · have : (Foreign.joinBytes (l.map txt1) (⟨#[44, 32]⟩ : ByteArray)).size = (Lib.join ((l.map txt1).map (·.data.toList)) (⟨#[44, 32]⟩ : ByteArray).data.toList).length := by
      simp [Foreign.joinBytes, ByteArray.size]
    omega
theorem impl_SetText_eq (l : List S76) (hl : l.length ≤ 1048576) (hs : SizedL 1048576 l) (k : Nat) (hk : 4194304 < k) : impl_SetText.f k l = some (setText l) := by
  unfold impl_SetText.f setText
  rw [impl_SetOk_eq l hl 1048576 (by omega) hs k (by omega)]
  simp only [Option.bind_some]
  by_cases h : setOk l = true
  · rw [if_pos h, if_pos h]
    have h4 := setOk_le l h
    obtain ⟨j1, j2⟩ := join_some l h4 hs
    rw [impl_SetText_l l h4 hs l.length k [] 0 (by omega) (by omega) (by simp) (by omega)]
    obtain ⟨m, hm⟩ : ∃ m, k - l.length = m + 1 := ⟨k - l.length - 1, by omega⟩
    rw [hm]
    simp only [impl_SetText.l0]
    rw [if_neg (by omega)]
    have e : ([] : List ByteArray) ++ (l.drop (0 : Int).toNat).map txt1 = l.map txt1 := by simp
    rw [e, j1]
    simp only [Option.bind_some]
    rw [if_pos (by omega), if_pos (by simp only [ByteArray.size_append, sz1]; omega), text_join]
  · rw [if_neg h, if_neg h]

/-! ### Sum -/
theorem bits_xor_nat (k : IntKind) (j : Nat) (hj : j ≤ k.bits) (hk : ∀ n : Int, 0 ≤ n → n < 2 ^ j → k.wrap n = n) (a b : Nat) (ha : a < 2 ^ j) (hb : b < 2 ^ j) :
    Go.bits .xor k a b = ((a ^^^ b : Nat) : Int) := by
  have hp : 2 ^ j ≤ 2 ^ k.bits := Nat.pow_le_pow_right (by decide) hj
  have ha' : a % 2 ^ k.bits = a := Nat.mod_eq_of_lt (Nat.lt_of_lt_of_le ha hp)
  have hb' : b % 2 ^ k.bits = b := Nat.mod_eq_of_lt (Nat.lt_of_lt_of_le hb hp)
  simp only [Go.bits, BitVec.ofInt_natCast, BitVec.toNat_xor, BitVec.toNat_ofNat, ha', hb']
  exact hk _ (Int.natCast_nonneg _) (by exact_mod_cast Nat.xor_lt_two_pow ha hb)
theorem xor_u32 (a b : Int) (ha : 0 ≤ a) (ha' : a < 4294967296) (hb : 0 ≤ b) (hb' : b < 4294967296) : Go.bits .xor .u32 a b = ((a.toNat ^^^ b.toNat : Nat) : Int) := by
  obtain ⟨a, rfl⟩ := Int.eq_ofNat_of_zero_le ha
  obtain ⟨b, rfl⟩ := Int.eq_ofNat_of_zero_le hb
  exact bits_xor_nat .u32 32 (by decide) (fun n h0 h1 => by rw [IntKind.wrap_u32]; omega) a b (by omega) (by omega)
theorem xor_i64 (a b : Int) (ha : 0 ≤ a) (ha' : a < 4294967296) (hb : 0 ≤ b) (hb' : b < 4294967296) : Go.bits .xor .i64 a b = ((a.toNat ^^^ b.toNat : Nat) : Int) := by
  obtain ⟨a, rfl⟩ := Int.eq_ofNat_of_zero_le ha
  obtain ⟨b, rfl⟩ := Int.eq_ofNat_of_zero_le hb
  exact bits_xor_nat .i64 32 (by decide) (fun n h0 h1 => by rw [IntKind.wrap_i64]; omega) a b (by omega) (by omega)
theorem xor_lt32 (a b : Int) (ha : 0 ≤ a) (ha' : a < 4294967296) (hb : 0 ≤ b) (hb' : b < 4294967296) : ((a.toNat ^^^ b.toNat : Nat) : Int) < 4294967296 := by
  have := Nat.xor_lt_two_pow (n := 32) (x := a.toNat) (y := b.toNat) (by omega) (by omega)
  omega
theorem mask32 (x : Int) (h0 : 0 ≤ x) (h1 : x < 9223372036854775808) : Go.bits .and .i64 x 4294967295 = x % 4294967296 :=
  Go.bits_mask .i64 63 (by decide) (fun n h0 h1 => by rw [IntKind.wrap_i64]; omega) 32 (by decide) x h0 h1
def sumStep (s : ByteArray) (n i : Int) : Int := (((n.toNat ^^^ (bt s i).toNat : Nat) : Int) * 16777619) % 4294967296
def sumFrom (s : ByteArray) : Nat → Int → Int → Int
  | 0, _, n => n
  | d + 1, i, n => sumFrom s d (i + 1) (sumStep s n i)
def sumOf (s : ByteArray) : Int := sumFrom s s.size 0 2166136261
theorem sumStep_range (s : ByteArray) (n i : Int) : 0 ≤ sumStep s n i ∧ sumStep s n i < 4294967296 := by unfold sumStep; omega
theorem spec_sum_step (s : ByteArray) (n i : Int) (h0 : 0 ≤ n) (h1 : n < 4294967296) :
    Go.bits .and .i64 (wrap64 ((Go.bits .xor .i64 n (wrap64 (bt s i))) * 16777619)) 4294967295 = sumStep s n i := by
  have hb := bt_range s i
  rw [w64 (x := bt s i) (by omega) (by omega), xor_i64 n (bt s i) h0 h1 hb.1 (by omega)]
  have := xor_lt32 n (bt s i) h0 h1 hb.1 (by omega)
  rw [w64 (by omega) (by omega), mask32 _ (by omega) (by omega)]
  rfl
theorem impl_sum_step (s : ByteArray) (n i : Int) (h0 : 0 ≤ n) (h1 : n < 4294967296) :
    (((Go.bits .xor .u32 n ((bt s i) % 4294967296)) * 16777619) % 4294967296) = sumStep s n i := by
  have hb := bt_range s i
  rw [show bt s i % 4294967296 = bt s i by omega, xor_u32 n (bt s i) h0 h1 hb.1 (by omega)]
  rfl
theorem spec_Sum_l (s : ByteArray) (hn : s.size ≤ 140737488351232) (d : Nat) : ∀ (k : Nat) (n i : Int), 0 ≤ n → n < 4294967296 → 0 ≤ i → (s.size : Int) - i = d → d < k →
    spec_Sum.l0 k s n i = some (sumFrom s d i n) := by
  induction d with
  | zero =>
    intro k n i _ _ h0 hd hk
    obtain ⟨k, rfl⟩ : ∃ m, k = m + 1 := ⟨k - 1, by omega⟩
    simp only [spec_Sum.l0]; rw [if_neg (by omega)]; rfl
  | succ d ih =>
    intro k n i hn0 hn1 h0 hd hk
    obtain ⟨k, rfl⟩ : ∃ m, k = m + 1 := ⟨k - 1, by omega⟩
    simp only [spec_Sum.l0]; rw [if_pos (by omega), if_pos h0, spec_sum_step s n i hn0 hn1, w64 (x := i + 1) (by omega) (by omega)]
    exact ih k _ _ (sumStep_range s n i).1 (sumStep_range s n i).2 (by omega) (by omega) (by omega)
theorem impl_Sum_l (s : ByteArray) (hn : s.size ≤ 140737488351232) (d : Nat) : ∀ (k : Nat) (n i : Int), 0 ≤ n → n < 4294967296 → 0 ≤ i → (s.size : Int) - i = d → d < k →
    impl_Sum.l0 k s n i = some (sumFrom s d i n) := by
  induction d with
  | zero =>
    intro k n i _ _ h0 hd hk
    obtain ⟨k, rfl⟩ : ∃ m, k = m + 1 := ⟨k - 1, by omega⟩
    simp only [impl_Sum.l0]; rw [if_neg (by omega), w64 (by omega) (by omega)]; rfl
  | succ d ih =>
    intro k n i hn0 hn1 h0 hd hk
    obtain ⟨k, rfl⟩ : ∃ m, k = m + 1 := ⟨k - 1, by omega⟩
    simp only [impl_Sum.l0]; rw [if_pos (by omega), if_pos h0, impl_sum_step s n i hn0 hn1, w64 (x := i + 1) (by omega) (by omega)]
    exact ih k _ _ (sumStep_range s n i).1 (sumStep_range s n i).2 (by omega) (by omega) (by omega)
theorem spec_Sum_eq (s : ByteArray) (hn : s.size ≤ 140737488351232) (k : Nat) (hk : s.size < k) : spec_Sum.f k s = some (sumOf s) :=
  spec_Sum_l s hn s.size k _ _ (by omega) (by omega) (by omega) (by omega) hk
theorem impl_Sum_eq (s : ByteArray) (hn : s.size ≤ 140737488351232) (k : Nat) (hk : s.size < k) : impl_Sum.f k s = some (sumOf s) :=
  impl_Sum_l s hn s.size k _ _ (by omega) (by omega) (by omega) (by omega) hk

/-! ### Finger -/
theorem textOf_le (l : List S76) (hl : l.length ≤ 4) (hs : SizedL 1048576 l) : (textOf l).size ≤ 4194000 * 4 + 100 := by
  have key : ∀ (l : List S76), SizedL 1048576 l → ∀ s : ByteArray, (restB l s).size ≤ s.size + l.length * 2097160 + 1 := by
    intro l
    induction l with
    | nil => intro _ s; simp only [restB, ByteArray.size_append, sz1]; simp
    | cons x l ih =>
      intro hs s
      have hm := hs x List.mem_cons_self
      have := ih (fun y hy => hs y (List.mem_cons_of_mem _ hy)) (txt (s ++ (⟨#[44, 32]⟩ : ByteArray)) x)
      simp only [restB]
      simp only [txt, ByteArray.size_append, sz2, sz1] at this ⊢
      rw [List.length_cons, Nat.succ_mul]
      omega
  cases l with
  | nil => simp only [textOf, ByteArray.size_append, sz1]; omega
  | cons x l =>
    have hm := hs x List.mem_cons_self
    have := key l (fun y hy => hs y (List.mem_cons_of_mem _ hy)) (txt (⟨#[123]⟩ : ByteArray) x)
    simp only [textOf]
    simp only [txt, ByteArray.size_append, sz2, sz1] at this ⊢
    simp at hl
    omega
theorem setText_le (l : List S76) (hs : SizedL 1048576 l) : (setText l).size ≤ 16776100 := by
  unfold setText
  by_cases h : setOk l = true
  · rw [if_pos h]
    have := textOf_le l (setOk_le l h) hs
    omega
  · rw [if_neg h]
    exact Nat.zero_le _
def finger (l : List S76) : Int := Int.tmod (Go.bits .xor .i64 (sumOf (setText l)) (sumOf (setText l) / 65536)) 32
theorem spec_Finger_eq (l : List S76) (hl : l.length ≤ 1048576) (hs : SizedL 1048576 l) (k : Nat) (hk : 16777216 < k) : spec_Finger.f k l = some (finger l) := by
  have := setText_le l hs
  unfold spec_Finger.f finger
  rw [spec_SetText_eq l hl hs k (by omega)]
  simp only [Option.bind_some]
  rw [spec_Sum_eq _ (by omega) k (by omega)]
  rfl
theorem impl_Finger_eq (l : List S76) (hl : l.length ≤ 1048576) (hs : SizedL 1048576 l) (k : Nat) (hk : 16777216 < k) : impl_Finger.f k l = some (finger l) := by
  have := setText_le l hs
  unfold impl_Finger.f finger
  rw [impl_SetText_eq l hl hs k (by omega)]
  simp only [Option.bind_some]
  rw [impl_Sum_eq _ (by omega) k (by omega)]
  rfl

/-! ### ChainOk -/
def clashB (l : List S29) (s : List S76) (j : Int) : Bool := !sameSet (rd_T29 l j).f0 s
def alB (f : Int) (l : List S29) (i : Int) : Bool := alarmOk (rd_T29 l i).f0 (rd_T29 l i).f1 (rd_T29 l i).f2 (rd_T29 l i).f3 && decide (finger (rd_T29 l i).f0 = f)
def apB (l : List S29) (i : Int) : Bool := allFrom (clashB l (rd_T29 l i).f0) i.toNat 0
def chB (f : Int) (l : List S29) (i : Int) : Bool := alB f l i && apB l i
def chainOk (f : Int) (l : List S29) : Bool := allFrom (chB f l) l.length 0 && decide (0 < l.length)
theorem spec_ChainOk_in (f : Int) (l : List S29) (hl : OkAs l) (i : Int) (h0 : 0 ≤ i) (h1 : i < (l.length : Int)) (e : Nat) : ∀ (k : Nat) (j : Int), 0 ≤ j → j + e = i → 1048577 + e < k →
    spec_ChainOk.l1 k i j f l = if allFrom (clashB l (rd_T29 l i).f0) e j = true then spec_ChainOk.l0 (k - e - 1) (i + 1) f l else some false := by
  have hl1 := hl.1
  induction e with
  | zero =>
    intro k j hj hd hk
    obtain ⟨k, rfl⟩ : ∃ m, k = m + 1 := ⟨k - 1, by omega⟩
    simp only [spec_ChainOk.l1]
    rw [if_neg (by omega), w64 (by omega) (by omega)]
    rfl
  | succ e ih =>
    intro k j hj hd hk
    obtain ⟨k, rfl⟩ : ∃ m, k = m + 1 := ⟨k - 1, by omega⟩
    have hm := (hl.2 _ (rdA_mem l j hj (by omega))).1
    simp only [spec_ChainOk.l1]
    rw [if_pos (by omega), if_pos hj, if_pos (by omega), if_pos h0, if_pos h1, spec_SameSet_eq _ _ (by omega) _ (by omega)]
    simp only [Option.bind_some]
    have ea : allFrom (clashB l (rd_T29 l i).f0) (e + 1) j = (!sameSet (rd_T29 l j).f0 (rd_T29 l i).f0 && allFrom (clashB l (rd_T29 l i).f0) e (j + 1)) := rfl
    by_cases h : sameSet (rd_T29 l j).f0 (rd_T29 l i).f0 = true
    · have e2 : ¬ allFrom (clashB l (rd_T29 l i).f0) (e + 1) j = true := by rw [ea, h]; simp
      rw [if_pos h, if_neg e2]
    · have h' : sameSet (rd_T29 l j).f0 (rd_T29 l i).f0 = false := Bool.eq_false_iff.mpr h
      have e2 : allFrom (clashB l (rd_T29 l i).f0) (e + 1) j = allFrom (clashB l (rd_T29 l i).f0) e (j + 1) := by rw [ea, h']; simp
      have ek : k + 1 - (e + 1) - 1 = k - e - 1 := by omega
      rw [if_neg h, w64 (by omega) (by omega), ih k (j + 1) (by omega) (by omega) (by omega), ek, e2]
theorem spec_ChainOk_out (f : Int) (l : List S29) (hl : OkAs l) (d : Nat) : ∀ (k : Nat) (i : Int), 0 ≤ i → i + d = (l.length : Int) → d * 1048580 + 17777217 < k →
    spec_ChainOk.l0 k i f l = some (allFrom (chB f l) d i && decide (0 < l.length)) := by
  have hl1 := hl.1
  induction d with
  | zero =>
    intro k i h0 hd hk
    obtain ⟨k, rfl⟩ : ∃ m, k = m + 1 := ⟨k - 1, by omega⟩
    simp only [spec_ChainOk.l0]
    rw [if_neg (by omega)]
    simp [allFrom]
  | succ d ih =>
    intro k i h0 hd hk
    obtain ⟨k, rfl⟩ : ∃ m, k = m + 1 := ⟨k - 1, by omega⟩
    have hm := hl.2 _ (rdA_mem l i h0 (by omega))
    simp only [spec_ChainOk.l0]
    rw [if_pos (by omega), if_pos h0, spec_AlarmOk_eq _ _ _ _ hm.1 1048576 (by omega) hm.2.1 hm.2.2 _ (by omega)]
    simp only [Option.bind_some, allFrom]
    by_cases hA : alarmOk (rd_T29 l i).f0 (rd_T29 l i).f1 (rd_T29 l i).f2 (rd_T29 l i).f3 = true
    · rw [if_pos hA, spec_Finger_eq _ hm.1 hm.2.1 _ (by omega)]
      simp only [Option.bind_some]
      obtain ⟨k, rfl⟩ : ∃ m, k = m + 1 := ⟨k - 1, by omega⟩
      simp only [spec_ChainOk.j1]
      by_cases hF : finger (rd_T29 l i).f0 = f
      · have e1 : (finger (rd_T29 l i).f0 != f) = false := by simp [hF]
        rw [e1, if_neg (by decide), spec_ChainOk_in f l hl i h0 (by omega) i.toNat k 0 (by omega) (by omega) (by omega)]
        have e2 : chB f l i = allFrom (clashB l (rd_T29 l i).f0) i.toNat 0 := by simp [chB, alB, apB, hA, hF]
        rw [e2]
        by_cases hC : allFrom (clashB l (rd_T29 l i).f0) i.toNat 0 = true
        · have hk' : d * 1048580 + 17777217 < k - i.toNat - 1 := by
            have hi : i.toNat ≤ 1048576 := by omega
            rw [Nat.succ_mul] at hk
            generalize d * 1048580 = D at hk ⊢
            clear hF e1 e2 hC hA hm hd h0 ih hl hl1
            omega
          rw [if_pos hC, hC, ih (k - i.toNat - 1) (i + 1) (by omega) (by omega) hk', Bool.true_and]
        · rw [if_neg hC, Bool.eq_false_iff.mpr hC, Bool.false_and, Bool.false_and]
      · have e1 : (finger (rd_T29 l i).f0 != f) = true := by simp [hF]
        have e2 : chB f l i = false := by simp [chB, alB, hF]
        rw [e1, if_pos rfl, e2]; rfl
    · obtain ⟨k, rfl⟩ : ∃ m, k = m + 1 := ⟨k - 1, by omega⟩
      have e2 : chB f l i = false := by simp [chB, alB, hA]
      rw [if_neg hA, e2]
      simp only [spec_ChainOk.j1]
      rfl
theorem spec_ChainOk_eq (f : Int) (l : List S29) (hl : OkAs l) (k : Nat) (hk : 35184372088832 < k) : spec_ChainOk.f k f l = some (chainOk f l) := by
  have hl1 := hl.1
  exact spec_ChainOk_out f l hl l.length k 0 (by omega) (by omega) (by omega)
def atFrom' (s : List S76) : List S29 → Int → Int
  | [], _ => -1
  | a :: l, i => if sameSet a.f0 s = true then i else atFrom' s l (i + 1)
theorem atFrom'_neg (s : List S76) : ∀ (l : List S29) (i : Int), 0 ≤ i → (atFrom' s l i ≥ 0 ↔ ∃ a ∈ l, sameSet a.f0 s = true)
  | [], i, h => by simp [atFrom']
  | a :: l, i, h => by
    unfold atFrom'
    by_cases e : sameSet a.f0 s = true
    · rw [if_pos e]; exact ⟨fun _ => ⟨a, List.mem_cons_self, e⟩, fun _ => h⟩
    · rw [if_neg e, atFrom'_neg s l (i + 1) (by omega)]
      constructor
      · rintro ⟨b, hb, hs⟩; exact ⟨b, List.mem_cons_of_mem _ hb, hs⟩
      · rintro ⟨b, hb, hs⟩
        rcases List.mem_cons.1 hb with rfl | hb
        · exact absurd hs e
        · exact ⟨b, hb, hs⟩
theorem impl_labelsAt_l' (s : List S76) (l : List S29) (hl : OkAs l) (d : Nat) : ∀ (k : Nat) (i : Int), 0 ≤ i → i + d = (l.length : Int) → 1048577 + d < k → impl_labelsAt.l0 k s l l.length i = some (atFrom' s (l.drop i.toNat) i) := by
  have hl1 := hl.1
  induction d with
  | zero =>
    intro k i h0 hd hk
    obtain ⟨k, rfl⟩ : ∃ m, k = m + 1 := ⟨k - 1, by omega⟩
    simp only [impl_labelsAt.l0]
    rw [if_neg (by omega), List.drop_eq_nil_of_le (by omega)]; rfl
  | succ d ih =>
    intro k i h0 hd hk
    obtain ⟨k, rfl⟩ : ∃ m, k = m + 1 := ⟨k - 1, by omega⟩
    have hm := (hl.2 _ (rdA_mem l i h0 (by omega))).1
    simp only [impl_labelsAt.l0]
    rw [if_pos (by omega), if_pos h0, if_pos (by omega), impl_SameSet_eq _ _ (by omega) _ (by omega), drop_cons z29 l i h0 (by omega)]
    simp only [Option.bind_some, atFrom']
    show (if sameSet (l.getD i.toNat z29).f0 s = true then _ else _) = _
    by_cases h : sameSet (l.getD i.toNat z29).f0 s = true
    · rw [if_pos h, if_pos h]
    · rw [if_neg h, if_neg h, w64 (by omega) (by omega)]
      exact ih k (i + 1) (by omega) (by omega) (by omega)
theorem okAs_take (l : List S29) (hl : OkAs l) (n : Nat) : OkAs (l.take n) :=
  ⟨by have := hl.1; rw [List.length_take]; omega, fun a ha => hl.2 a (List.mem_of_mem_take ha)⟩
theorem apB_iff (l : List S29) (i : Int) (h0 : 0 ≤ i) (h1 : i < (l.length : Int)) (s : List S76) : (∃ a ∈ l.take i.toNat, sameSet a.f0 s = true) ↔ ¬ allFrom (clashB l s) i.toNat 0 = true := by
  rw [allFrom_iff]
  constructor
  · rintro ⟨a, ha, hs⟩ h
    obtain ⟨j, hj, e⟩ := List.mem_iff_getElem.1 ha
    rw [List.length_take] at hj
    rw [List.getElem_take] at e
    have := h (j : Int) (by omega) (by omega)
    unfold clashB rd_T29 at this
    rw [List.getD_eq_getElem?_getD, List.getElem?_eq_getElem (by omega)] at this
    simp only [Int.toNat_natCast, Option.getD_some, e, hs] at this
    cases this
  · intro h
    apply Classical.byContradiction
    intro hn
    apply h
    intro j hj hj'
    unfold clashB
    rw [Bool.not_eq_true']
    apply Bool.eq_false_iff.mpr
    intro hs
    refine hn ⟨rd_T29 l j, ?_, hs⟩
    unfold rd_T29
    rw [List.getD_eq_getElem?_getD, List.getElem?_eq_getElem (by omega), Option.getD_some]
    refine List.mem_iff_getElem.2 ⟨j.toNat, by rw [List.length_take]; omega, by rw [List.getElem_take]⟩
theorem impl_labelsApart_eq (l : List S29) (hl : OkAs l) (k : Nat) (hk : 4000000 < k) : impl_labelsApart.f k l = some (allFrom (apB l) l.length 0) := by
  have hl1 := hl.1
  unfold impl_labelsApart.f
  rw [all_loop (n := l.length) (by omega) 2200001 (apB l) (fun k i => impl_labelsApart.l0 k l l l.length i) (some true) ?_ ?_ l.length k 0 (by omega) (by omega) (by omega) (by omega), bool_of_if]
  · intro k i hk h0 h1
    simp only [impl_labelsApart.l0]
    have ht := okAs_take l hl i.toNat
    have hlt : (l.take i.toNat).length = i.toNat := by rw [List.length_take]; omega
    have e : impl_labelsAt.f k (l.take i.toNat) (rd_T29 l i).f0 = some (atFrom' (rd_T29 l i).f0 (l.take i.toNat) 0) := impl_labelsAt_l' _ _ ht (l.take i.toNat).length k 0 (by omega) (by omega) (by omega)
    rw [if_pos h1, if_pos h0, if_pos h1, if_pos (by omega), e]
    simp only [Option.bind_some]
    have key := (atFrom'_neg (rd_T29 l i).f0 (l.take i.toNat) 0 (by omega)).trans (apB_iff l i h0 h1 (rd_T29 l i).f0)
    by_cases hc : apB l i = true
    · rw [if_pos hc, if_neg (fun hh => (key.1 hh) hc)]
    · rw [if_neg hc, if_pos (key.2 hc)]
  · intro k _
    simp only [impl_labelsApart.l0]
    rw [if_neg (by omega)]
theorem impl_ChainOk_eq (f : Int) (l : List S29) (hl : OkAs l) (k : Nat) (hk : 35184372088832 < k) : impl_ChainOk.f k f l = some (chainOk f l) := by
  have hl1 := hl.1
  unfold impl_ChainOk.f
  rw [all_loop (n := l.length) (by omega) 17777217 (alB f l) (fun k i => impl_ChainOk.l0 k l l.length i f l) (some (decide (0 < l.length) && allFrom (apB l) l.length 0)) ?_ ?_ l.length k 0 (by omega) (by omega) (by omega) (by omega)]
  · have e : chainOk f l = (allFrom (alB f l) l.length 0 && (decide (0 < l.length) && allFrom (apB l) l.length 0)) := by
      unfold chainOk
      have e1 : allFrom (chB f l) l.length 0 = (allFrom (alB f l) l.length 0 && allFrom (apB l) l.length 0) := by
        rw [Bool.eq_iff_iff, Bool.and_eq_true, allFrom_iff, allFrom_iff, allFrom_iff]
        constructor
        · intro h
          refine ⟨fun j a b => ?_, fun j a b => ?_⟩
          · have := h j a b; unfold chB at this; rw [Bool.and_eq_true] at this; exact this.1
          · have := h j a b; unfold chB at this; rw [Bool.and_eq_true] at this; exact this.2
        · rintro ⟨h, h'⟩ j a b
          unfold chB; rw [Bool.and_eq_true]; exact ⟨h j a b, h' j a b⟩
      rw [e1]
      cases allFrom (alB f l) l.length 0 <;> cases allFrom (apB l) l.length 0 <;> simp
    rw [e]
    cases allFrom (alB f l) l.length 0 <;> simp
  · intro k i hk h0 h1
    have hm := hl.2 _ (rdA_mem l i h0 h1)
    simp only [impl_ChainOk.l0]
    rw [if_pos h1, if_pos h0, if_pos h1, impl_AlarmOk_eq _ _ _ _ hm.1 1048576 (by omega) hm.2.1 hm.2.2 _ (by omega)]
    simp only [Option.bind_some]
    by_cases hA : alarmOk (rd_T29 l i).f0 (rd_T29 l i).f1 (rd_T29 l i).f2 (rd_T29 l i).f3 = true
    · rw [if_pos hA, impl_Finger_eq _ hm.1 hm.2.1 _ (by omega)]
      simp only [Option.bind_some]
      by_cases hF : finger (rd_T29 l i).f0 = f
      · have e2 : alB f l i = true := by simp [alB, hA, hF]
        rw [if_pos hF, if_pos e2]
      · have e2 : ¬ alB f l i = true := by simp [alB, hF]
        rw [if_neg hF, if_neg e2]
    · have e2 : ¬ alB f l i = true := by simp [alB, hA]
      rw [if_neg hA, if_neg e2]
  · intro k hk
    simp only [impl_ChainOk.l0]
    rw [if_neg (by omega)]
    by_cases hz : (l.length : Int) > 0
    · rw [if_pos hz, impl_labelsApart_eq l hl _ (by omega)]
      simp only [Option.bind_some]
      rw [decide_eq_true (by omega)]; rfl
    · rw [if_neg hz, decide_eq_false (by omega)]; rfl

/-! ### SameSetLaws -/
theorem sameSet_self (l : List S76) : sameSet l l = true := by
  unfold sameSet
  simp [allFrom_iff, sameB, labEq]
/-! ### Cur -/
theorem l1Byte_ok (b : List Int) (i h : Int) (hc : CurOk b i) : ∃ x i' h', spec_l1Byte.f b i h = some (x, i', h') ∧ 0 ≤ x ∧ x ≤ 255 ∧ CurOk b i' := by
  obtain ⟨h0, h1, h2⟩ := hc
  unfold spec_l1Byte.f
  by_cases hi : i < (b.length : Int)
  · rw [if_pos hi, if_pos h0]
    exact ⟨_, _, _, rfl, (and255 _).1, (and255 _).2, by rw [w64 (by omega) (by omega)]; exact ⟨by omega, by omega, h2⟩⟩
  · rw [if_neg hi]
    exact ⟨_, _, _, rfl, (and255 _).1, (and255 _).2, h0, h1, h2⟩
theorem l1Below_ok (b : List Int) (i h n : Int) (hc : CurOk b i) : ∃ x i' h', spec_l1Below.f b i h n = some (x, i', h') ∧ 0 ≤ x ∧ (0 < n → x < n) ∧ CurOk b i' := by
  unfold spec_l1Below.f
  by_cases hn : n ≤ 0
  · rw [if_pos hn]
    exact ⟨_, _, _, rfl, by omega, by omega, hc⟩
  · rw [if_neg hn]
    obtain ⟨x, i1, g1, e1, hx0, hx1, c1⟩ := l1Byte_ok b i h hc
    by_cases hb : n ≤ 256
    · rw [if_pos hb, e1]
      simp only [Option.bind_some]
      rw [if_neg (by omega)]
      have := tmod_range hx0 (show 0 < n by omega)
      exact ⟨_, _, _, rfl, this.1, fun _ => this.2, c1⟩
    · obtain ⟨y, i2, g2, e2, hy0, hy1, c2⟩ := l1Byte_ok b i1 g1 c1
      obtain ⟨z, i3, g3, e3, hz0, hz1, c3⟩ := l1Byte_ok b i2 g2 c2
      rw [if_neg hb, e1]
      simp only [Option.bind_some, e2, e3]
      rw [if_neg (by omega), w64 (x := x * 65536) (by omega) (by omega), w64 (x := y * 256) (by omega) (by omega), w64 (x := x * 65536 + y * 256) (by omega) (by omega), w64 (by omega) (by omega)]
      have := tmod_range (show 0 ≤ x * 65536 + y * 256 + z by omega) (show 0 < n by omega)
      exact ⟨_, _, _, rfl, this.1, fun _ => this.2, c3⟩

/-! ### CurOnce -/
theorem l1Once_ok (b : List Int) (i h n : Int) (hc : CurOk b i) : ∃ t i' h', spec_l1Once.f b i h n = some (t, i', h') ∧ CurOk b i' := by
  obtain ⟨x, i1, h1, e, _, _, c⟩ := l1Below_ok b i h n hc
  unfold spec_l1Once.f
  rw [e]
  exact ⟨_, _, _, rfl, c⟩

/-! ### CurStr -/
theorem l1Str_ok (b : List Int) (i h : Int) (l : List ByteArray) (hl : 0 < l.length) (hc : CurOk b i) : ∃ s i' h', spec_l1Str.f b i h l = some (s, i', h') ∧ s ∈ l ∧ CurOk b i' := by
  obtain ⟨x, i1, h1, e, h0, hn, c⟩ := l1Below_ok b i h l.length hc
  unfold spec_l1Str.f
  rw [e]
  simp only [Option.bind_some]
  rw [if_pos h0, if_pos (hn (by omega))]
  exact ⟨_, _, _, rfl, rdOf_mem _ _ _ h0 (hn (by omega)), c⟩
theorem all13 (l : List ByteArray) (h : l.all (fun s => decide (s.size ≤ 13)) = true) : ∀ s ∈ l, s.size ≤ 13 := fun s hs => of_decide_eq_true (List.all_eq_true.1 h s hs)
theorem l1Str_sz (b : List Int) (i h : Int) (l : List ByteArray) (hl : 0 < l.length) (h13 : l.all (fun s => decide (s.size ≤ 13)) = true) (hc : CurOk b i) : ∃ s i' h', spec_l1Str.f b i h l = some (s, i', h') ∧ s.size ≤ 13 ∧ CurOk b i' := by
  obtain ⟨s, i', h', e, hm, c⟩ := l1Str_ok b i h l hl hc
  exact ⟨s, i', h', e, all13 l h13 s hm, c⟩

/-! ### L2 -/
theorem sized_append (M : Nat) {a b : List S76} (ha : SizedL M a) (hb : SizedL M b) : SizedL M (a ++ b) := by
  intro x hx
  rcases List.mem_append.1 hx with h | h
  · exact ha x h
  · exact hb x h
theorem sized_one (M : Nat) {x y : ByteArray} (hx : x.size ≤ M) (hy : y.size ≤ M) : SizedL M [(⟨x, y⟩ : S76)] := by
  intro z hz
  rw [List.mem_singleton.1 hz]
  exact ⟨hx, hy⟩
theorem sized_set (M : Nat) {a : List S76} (ha : SizedL M a) (n : Nat) {x y : ByteArray} (hx : x.size ≤ M) (hy : y.size ≤ M) : SizedL M (a.set n (⟨x, y⟩ : S76)) := by
  intro z hz
  rcases List.mem_or_eq_of_mem_set hz with h | h
  · exact ha z h
  · rw [h]; exact ⟨hx, hy⟩
theorem l2Draw_l (b : List Int) (names : List ByteArray) (hn : names.length ≤ 4) (hs : ∀ s ∈ names, s.size ≤ 13) (d : Nat) : ∀ (k : Nat) (l : List S76) (j i h : Int), 0 ≤ j → j + d = (names.length : Int) → 1 ≤ l.length → l.length ≤ j + 1 → SizedL 13 l → CurOk b i → d < k →
    ∃ r i' h', spec_l2Draw.l0 k l names names.length j b i h = some (r, i', h') ∧ 1 ≤ r.length ∧ r.length ≤ names.length + 1 ∧ SizedL 13 r ∧ CurOk b i' := by
  induction d with
  | zero =>
    intro k l j i h h0 hd hl hl' hsz hc hk
    obtain ⟨k, rfl⟩ : ∃ m, k = m + 1 := ⟨k - 1, by omega⟩
    simp only [spec_l2Draw.l0]
    rw [if_neg (by omega)]
    exact ⟨_, _, _, rfl, hl, by omega, hsz, hc⟩
  | succ d ih =>
    intro k l j i h h0 hd hl hl' hsz hc hk
    obtain ⟨k, rfl⟩ : ∃ m, k = m + 1 := ⟨k - 1, by omega⟩
    simp only [spec_l2Draw.l0]
    rw [if_pos (by omega), if_pos h0, if_pos (by omega)]
    obtain ⟨t, i1, h1, e1, c1⟩ := l1Once_ok b i h 4 hc
    rw [e1]
    simp only [Option.bind_some]
    by_cases ht : t = true
    · rw [if_pos ht]
      obtain ⟨s, i2, h2, e2, hm, c2⟩ := l1Str_ok b i1 h1 (([(⟨#[49]⟩ : ByteArray), (⟨#[50]⟩ : ByteArray)] : List ByteArray)) (by decide) c1
      rw [e2]
      simp only [Option.bind_some]
      rw [if_pos (by omega), w64 (x := j + 1) (by omega) (by omega)]
      have hss : s.size ≤ 13 := by
        simp only [List.mem_cons, List.not_mem_nil, or_false] at hm
        rcases hm with rfl | rfl <;> decide
      exact ih k _ _ _ _ (by omega) (by omega) (by simp) (by simp; omega) (sized_append 13 hsz (sized_one 13 (hs _ (rdOf_mem _ _ _ h0 (by omega))) hss)) c2 (by omega)
    · rw [if_neg ht, w64 (x := j + 1) (by omega) (by omega)]
      exact ih k _ _ _ _ (by omega) (by omega) hl (by omega) hsz c1 (by omega)
theorem l2Draw_ok (b : List Int) (i h : Int) (k : Nat) (hk : 5 < k) (hc : CurOk b i) : ∃ r i' h', spec_l2Draw.f k b i h = some (r, i', h') ∧ 1 ≤ r.length ∧ r.length ≤ 4 ∧ SizedL 13 r ∧ CurOk b i' := by
  unfold spec_l2Draw.f
  obtain ⟨s, i2, h2, e2, hm, c2⟩ := l1Str_ok b i h (([(⟨#[97]⟩ : ByteArray), (⟨#[98]⟩ : ByteArray), (⟨#[99]⟩ : ByteArray)] : List ByteArray)) (by decide) hc
  have hss : s.size ≤ 13 := by
    simp only [List.mem_cons, List.not_mem_nil, or_false] at hm
    rcases hm with rfl | rfl | rfl <;> decide
  rw [e2]
  simp only [Option.bind_some]
  exact l2Draw_l b _ (by decide) (by
    intro s hs
    simp only [List.mem_cons, List.not_mem_nil, or_false] at hs
    rcases hs with rfl | rfl | rfl <;> decide) 3 k _ 0 _ _ (by omega) (by decide) (by simp) (by simp) (sized_one 13 (by decide) hss) c2 (by omega)

/-! ### L1Names -/
theorem l1Names_ok (b : List Int) (i h : Int) (hc : CurOk b i) : ∃ s i' h', spec_l1Names.f b i h = some (s, i', h') ∧ s.size ≤ 13 ∧ CurOk b i' := by
  unfold spec_l1Names.f
  obtain ⟨s, i2, h2, e2, hm, c2⟩ := l1Str_sz b i h (([(⟨#[97, 112, 112]⟩ : ByteArray), (⟨#[104, 111, 115, 116]⟩ : ByteArray), (⟨#[115, 101, 118]⟩ : ByteArray), (⟨#[122, 111, 110, 101]⟩ : ByteArray)] : List ByteArray)) (by decide) (by decide) hc
  rw [e2]
  exact ⟨_, _, _, rfl, hm, c2⟩

/-! ### L1AnyName -/
theorem l1AnyName_ok (b : List Int) (i h : Int) (hc : CurOk b i) : ∃ s i' h', spec_l1AnyName.f b i h = some (s, i', h') ∧ s.size ≤ 13 ∧ CurOk b i' := by
  unfold spec_l1AnyName.f
  obtain ⟨t, i1, h1, e1, c1⟩ := l1Once_ok b i h 2 hc
  rw [e1]
  simp only [Option.bind_some]
  by_cases ht : t = true
  · rw [if_pos ht]
    obtain ⟨s, i2, h2, e2, hm, c2⟩ := l1Names_ok b i1 h1 c1
    rw [e2]
    exact ⟨_, _, _, rfl, hm, c2⟩
  · rw [if_neg ht]
    obtain ⟨s, i2, h2, e2, hm, c2⟩ := l1Str_sz b i1 h1 (([(⟨#[]⟩ : ByteArray), (⟨#[65]⟩ : ByteArray), (⟨#[110, 105, 110, 101, 99, 104, 97, 114, 115]⟩ : ByteArray), (⟨#[101, 105, 103, 104, 116, 97, 98, 99]⟩ : ByteArray), (⟨#[97, 32, 98]⟩ : ByteArray), (⟨#[97, 49]⟩ : ByteArray)] : List ByteArray)) (by decide) (by decide) c1
    rw [e2]
    exact ⟨_, _, _, rfl, hm, c2⟩

/-! ### L1Plain -/
theorem l1Plain_ok (b : List Int) (i h : Int) (hc : CurOk b i) : ∃ s i' h', spec_l1Plain.f b i h = some (s, i', h') ∧ s.size ≤ 13 ∧ CurOk b i' := by
  unfold spec_l1Plain.f
  obtain ⟨s, i2, h2, e2, hm, c2⟩ := l1Str_sz b i h (([(⟨#[97]⟩ : ByteArray), (⟨#[98]⟩ : ByteArray), (⟨#[120, 32, 121]⟩ : ByteArray), (⟨#[]⟩ : ByteArray), (⟨#[99, 114, 105, 116]⟩ : ByteArray), (⟨#[125, 45]⟩ : ByteArray)] : List ByteArray)) (by decide) (by decide) hc
  rw [e2]
  exact ⟨_, _, _, rfl, hm, c2⟩

/-! ### L1AnyPlain -/
theorem l1AnyPlain_ok (b : List Int) (i h : Int) (hc : CurOk b i) : ∃ s i' h', spec_l1AnyPlain.f b i h = some (s, i', h') ∧ s.size ≤ 13 ∧ CurOk b i' := by
  unfold spec_l1AnyPlain.f
  obtain ⟨t, i1, h1, e1, c1⟩ := l1Once_ok b i h 2 hc
  rw [e1]
  simp only [Option.bind_some]
  by_cases ht : t = true
  · rw [if_pos ht]
    obtain ⟨s, i2, h2, e2, hm, c2⟩ := l1Plain_ok b i1 h1 c1
    rw [e2]
    exact ⟨_, _, _, rfl, hm, c2⟩
  · rw [if_neg ht]
    obtain ⟨s, i2, h2, e2, hm, c2⟩ := l1Str_sz b i1 h1 (([(⟨#[34]⟩ : ByteArray), (⟨#[92]⟩ : ByteArray), (⟨#[127]⟩ : ByteArray), (⟨#[31]⟩ : ByteArray), (⟨#[116, 119, 101, 108, 118, 101, 32, 98, 121, 116, 101, 115]⟩ : ByteArray), (⟨#[116, 104, 105, 114, 116, 101, 101, 110, 98, 121, 116, 101, 115]⟩ : ByteArray), (⟨#[126]⟩ : ByteArray), (⟨#[125]⟩ : ByteArray), (⟨#[44, 32, 98, 61]⟩ : ByteArray), (⟨#[125, 32, 49, 45, 50]⟩ : ByteArray)] : List ByteArray)) (by decide) (by decide) c1
    rw [e2]
    exact ⟨_, _, _, rfl, hm, c2⟩

/-! ### L2Any -/
theorem l2Any_ok (b : List Int) (i h : Int) (k : Nat) (hk : 5 < k) (hc : CurOk b i) : ∃ r i' h', spec_l2Any.f k b i h = some (r, i', h') ∧ r.length ≤ 8 ∧ SizedL 13 r ∧ CurOk b i' := by
  unfold spec_l2Any.f
  obtain ⟨l, i1, h1, e1, hl1, hl4, hs, c1⟩ := l2Draw_ok b i h k hk hc
  obtain ⟨x, i2, h2, e2, hx0, hx1, c2⟩ := l1Below_ok b i1 h1 10 c1
  rw [e1]
  simp only [Option.bind_some]
  rw [e2]
  simp only [Option.bind_some]
  by_cases x0 : x = 0
  · rw [if_pos x0]
    obtain ⟨s, i3, h3, e3, hs3, c3⟩ := l1AnyName_ok b i2 h2 c2
    obtain ⟨t, i4, h4, e4, hs4, c4⟩ := l1AnyPlain_ok b i3 h3 c3
    rw [e3]
    simp only [Option.bind_some]
    rw [e4]
    simp only [Option.bind_some]
    rw [if_pos (by omega)]
    exact ⟨_, _, _, rfl, by simp; omega, sized_append 13 hs (sized_one 13 hs3 hs4), c4⟩
  rw [if_neg x0]
  by_cases x1 : x = 1
  · rw [if_pos x1, if_pos (by simp; omega)]
    exact ⟨_, _, _, rfl, by simp; omega, sized_append 13 (sized_one 13 (by decide) (by decide)) hs, c2⟩
  rw [if_neg x1]
  by_cases x2 : x = 2
  · rw [if_pos x2, if_pos (by omega), if_pos (by omega)]
    have hm := hs _ (rd_mem l 0 (by omega) (by omega))
    exact ⟨_, _, _, rfl, by simp; omega, sized_append 13 hs (sized_one 13 hm.1 hm.2), c2⟩
  rw [if_neg x2]
  by_cases x3 : x = 3
  · rw [if_pos x3, if_pos (by simp; omega)]
    refine ⟨_, _, _, rfl, by simp; omega, sized_append 13 hs ?_, c2⟩
    intro z hz
    simp only [List.mem_cons, List.not_mem_nil, or_false] at hz
    rcases hz with rfl | rfl | rfl | rfl <;> exact ⟨by decide, by decide⟩
  rw [if_neg x3]
  by_cases x4 : x = 4
  · rw [if_pos x4]
    obtain ⟨t, i4, h4, e4, hs4, c4⟩ := l1AnyPlain_ok b i2 h2 c2
    have hm := hs _ (rd_mem l 0 (by omega) (by omega))
    rw [e4]
    simp only [Option.bind_some]
    rw [if_pos (by omega)]
    exact ⟨_, _, _, rfl, by simp; omega, sized_set 13 hs _ hm.1 hs4, c4⟩
  rw [if_neg x4]
  by_cases x5 : x = 5
  · rw [if_pos x5]
    exact ⟨_, _, _, rfl, by simp, fun z hz => by simp at hz, c2⟩
  rw [if_neg x5]
  exact ⟨_, _, _, rfl, by omega, hs, c2⟩

/-! ### CurInt -/
theorem l1Int_ok (b : List Int) (i h : Int) (l : List Int) (hl : 0 < l.length) (hc : CurOk b i) : ∃ s i' h', spec_l1Int.f b i h l = some (s, i', h') ∧ s ∈ l ∧ CurOk b i' := by
  obtain ⟨x, i1, h1, e, h0, hn, c⟩ := l1Below_ok b i h l.length hc
  unfold spec_l1Int.f
  rw [e]
  simp only [Option.bind_some]
  rw [if_pos h0, if_pos (hn (by omega))]
  exact ⟨_, _, _, rfl, rd_mem_int _ _ h0 (hn (by omega)), c⟩

/-! ### L1Raw -/
theorem l1Odd_ok (b : List Int) (i h : Int) (hc : CurOk b i) : ∃ x i' h', spec_l1Odd.f b i h = some (x, i', h') ∧ (-9223372036854775808 ≤ x ∧ x ≤ 9223372036854775807) ∧ CurOk b i' := by
  unfold spec_l1Odd.f
  obtain ⟨s, i2, h2, e2, hm, c2⟩ := l1Int_ok b i h (([(-1), 0, 1, 2, 255, 256, 65535, 2147483647, 2147483648, 4294967295, 4294967296, (-2147483648), 9223372036854775807, (-9223372036854775808)] : List Int)) (by decide) hc
  rw [e2]
  refine ⟨_, _, _, rfl, ?_, c2⟩
  simp only [List.mem_cons, List.not_mem_nil, or_false] at hm
  omega
theorem l1Raw_ok (b : List Int) (i h : Int) (hc : CurOk b i) : ∃ x i' h', spec_l1Raw.f b i h = some (x, i', h') ∧ (-9223372036854775808 ≤ x ∧ x ≤ 9223372036854775807) ∧ CurOk b i' := by
  unfold spec_l1Raw.f
  obtain ⟨t, i1, h1, e1, c1⟩ := l1Once_ok b i h 2 hc
  rw [e1]
  simp only [Option.bind_some]
  by_cases ht : t = true
  · rw [if_pos ht]
    obtain ⟨s, i2, h2, e2, hm, c2⟩ := l1Odd_ok b i1 h1 c1
    rw [e2]
    exact ⟨_, _, _, rfl, hm, c2⟩
  · rw [if_neg ht]
    obtain ⟨s, i2, h2, e2, hm, c2⟩ := l1Int_ok b i1 h1 (([(-1), 0, 1, 3, 99999, 100000] : List Int)) (by decide) c1
    rw [e2]
    refine ⟨_, _, _, rfl, ?_, c2⟩
    simp only [List.mem_cons, List.not_mem_nil, or_false] at hm
    omega

/-! ### CurNew -/
theorem l1New_l (b : List Int) (hb : b.length ≤ 140737488351232) (d : Nat) : ∀ (k : Nat) (x i : Int), 0 ≤ i → (b.length : Int) - i = d → d < k → ∃ h, spec_l1New.l0 k b x i = some (b, 0, h) := by
  induction d with
  | zero =>
    intro k x i h0 hd hk
    obtain ⟨k, rfl⟩ : ∃ m, k = m + 1 := ⟨k - 1, by omega⟩
    simp only [spec_l1New.l0]
    rw [if_neg (by omega)]
    exact ⟨_, rfl⟩
  | succ d ih =>
    intro k x i h0 hd hk
    obtain ⟨k, rfl⟩ : ∃ m, k = m + 1 := ⟨k - 1, by omega⟩
    simp only [spec_l1New.l0]
    rw [if_pos (by omega)]
    by_cases h4 : i < 4000
    · rw [if_pos h4, if_pos h0, w64 (x := i + 1) (by omega) (by omega)]
      exact ih k _ _ (by omega) (by omega) (by omega)
    · rw [if_neg h4]
      exact ⟨_, rfl⟩
theorem l1New_ok (b : List Int) (hb : b.length ≤ 140737488351232) (k : Nat) (hk : b.length < k) : ∃ h, spec_l1New.f k b = some (b, 0, h) ∧ CurOk b 0 := by
  obtain ⟨h, e⟩ := l1New_l b hb b.length k (wrap64 (140873 + (b.length : Int))) 0 (by omega) (by omega) hk
  exact ⟨h, e, by omega, by omega, hb⟩

/-! ### L4 -/
def wf64 (x : Int) : Prop := (Lit.int .i64 x).wf = true
theorem wf64_of (x : Int) (h0 : -9223372036854775808 ≤ x) (h1 : x ≤ 9223372036854775807) : wf64 x := by
  unfold wf64
  simp [Lit.wf, IntKind.min, IntKind.max, IntKind.signed, IntKind.bits]; omega
theorem l4Draw_ok (b : List Int) (i h : Int) (k : Nat) (hk : 5 < k) (hc : CurOk b i) : ∃ l s e n i' h', spec_l4Draw.f k b i h = some (l, s, e, n, i', h') ∧ 1 ≤ l.length ∧ l.length ≤ 8 ∧ SizedL 13 l ∧ wf64 s ∧ wf64 e ∧ n.size ≤ 13 ∧ CurOk b i' := by
  unfold spec_l4Draw.f
  obtain ⟨l, i1, h1, e1, hl1, hl4, hs, c1⟩ := l2Draw_ok b i h k hk hc
  rw [e1]
  simp only [Option.bind_some]
  obtain ⟨x, i2, h2, e2, hx0, hx1, c2⟩ := l1Below_ok b i1 h1 8 c1
  rw [e2]
  simp only [Option.bind_some]
  obtain ⟨n, i3, h3, e3, hn, c3⟩ := l1Plain_ok b i2 h2 c2
  rw [e3]
  simp only [Option.bind_some]
  obtain ⟨y, i4, h4, e4, hy, c4⟩ := l1Int_ok b i3 h3 (([0, 2, 5, 20, 60] : List Int)) (by decide) c3
  rw [e4]
  have := hx1 (by omega)
  simp only [List.mem_cons, List.not_mem_nil, or_false] at hy
  refine ⟨_, _, _, _, _, _, rfl, hl1, by omega, hs, wf64_of _ (by omega) (by omega), ?_, hn, c4⟩
  rw [w64 (by omega) (by omega)]
  exact wf64_of _ (by omega) (by omega)
theorem l4Any_ok (b : List Int) (i h : Int) (k : Nat) (hk : 5 < k) (hc : CurOk b i) : ∃ l s e n i' h', spec_l4Any.f k b i h = some (l, s, e, n, i', h') ∧ l.length ≤ 8 ∧ SizedL 13 l ∧ wf64 s ∧ wf64 e ∧ n.size ≤ 13 ∧ CurOk b i' := by
  unfold spec_l4Any.f
  obtain ⟨l, s, e, n, i1, h1, e1, hl1, hl8, hs, ws, we, hn, c1⟩ := l4Draw_ok b i h k hk hc
  rw [e1]
  simp only [Option.bind_some]
  obtain ⟨x, i2, h2, e2, hx0, hx1, c2⟩ := l1Below_ok b i1 h1 12 c1
  rw [e2]
  simp only [Option.bind_some]
  by_cases x0 : x = 0
  · rw [if_pos x0]
    obtain ⟨l', i3, h3, e3, hl3, hs3, c3⟩ := l2Any_ok b i2 h2 k hk c2
    rw [e3]
    exact ⟨_, _, _, _, _, _, rfl, hl3, hs3, ws, we, hn, c3⟩
  rw [if_neg x0]
  by_cases x1 : x = 1
  · rw [if_pos x1]
    obtain ⟨y, i3, h3, e3, hy, c3⟩ := l1Int_ok b i2 h2 (([(-1), 99999, 100000] : List Int)) (by decide) c2
    rw [e3]
    simp only [List.mem_cons, List.not_mem_nil, or_false] at hy
    exact ⟨_, _, _, _, _, _, rfl, hl8, hs, wf64_of _ (by omega) (by omega), we, hn, c3⟩
  rw [if_neg x1]
  by_cases x2 : x = 2
  · rw [if_pos x2]
    obtain ⟨y, i3, h3, e3, hy, c3⟩ := l1Raw_ok b i2 h2 c2
    rw [e3]
    exact ⟨_, _, _, _, _, _, rfl, hl8, hs, ws, wf64_of _ hy.1 hy.2, hn, c3⟩
  rw [if_neg x2]
  by_cases x3 : x = 3
  · rw [if_pos x3]
    obtain ⟨y, i3, h3, e3, hy, c3⟩ := l1AnyPlain_ok b i2 h2 c2
    rw [e3]
    exact ⟨_, _, _, _, _, _, rfl, hl8, hs, ws, we, hy, c3⟩
  rw [if_neg x3]
  exact ⟨_, _, _, _, _, _, rfl, hl8, hs, ws, we, hn, c2⟩

def Dr (a : S29) : Prop := a.f0.length ≤ 8 ∧ SizedL 13 a.f0 ∧ a.f3.size ≤ 13
def DrS (l : List S29) (n : Nat) : Prop := l.length ≤ n ∧ ∀ a ∈ l, Dr a
theorem DrS.ok {l : List S29} {n : Nat} (h : DrS l n) (hn : n ≤ 1048576) : OkAs l := by
  refine ⟨by have := h.1; omega, fun a ha => ?_⟩
  obtain ⟨h1, h2, h3⟩ := h.2 a ha
  exact ⟨by omega, fun x hx => by have := h2 x hx; omega, by omega⟩
theorem Dr.up {a : S29} (h : Dr a) : SizedL 1048576 a.f0 := fun x hx => by have := h.2.1 x hx; omega
theorem DrS.rd {l : List S29} {n : Nat} (h : DrS l n) (i : Int) (h0 : 0 ≤ i) (h1 : i < (l.length : Int)) : Dr (rd_T29 l i) := h.2 _ (rdA_mem l i h0 h1)
theorem DrS.le {l : List S29} {n m : Nat} (h : DrS l n) (hn : n ≤ m) : DrS l m := ⟨Nat.le_trans h.1 hn, h.2⟩
theorem DrS.add {l : List S29} {n : Nat} (h : DrS l n) {a : S29} (ha : Dr a) : DrS (l ++ [a]) (n + 1) := by
  refine ⟨by have := h.1; simp; omega, fun b hb => ?_⟩
  rcases List.mem_append.1 hb with hb | hb
  · exact h.2 b hb
  · rw [List.mem_singleton.1 hb]; exact ha
theorem putChain_dr (f : Int) (l : List S29) (hl : ∀ a ∈ l, Dr a) (al : List S76) (s e : Int) (n : ByteArray) (ha : Dr ⟨al, s, e, n⟩) : (putChain f l al s e n).2.1.length ≤ l.length + 1 ∧ 1 ≤ (putChain f l al s e n).2.1.length ∧ ∀ b ∈ (putChain f l al s e n).2.1, Dr b := by
  unfold putChain
  split
  · refine ⟨by simp, by simp, fun b hb => ?_⟩
    rcases List.mem_append.1 hb with hb | hb
    · exact hl b hb
    · rw [List.mem_singleton.1 hb]; exact ha
  · next c =>
    have hlt := atFrom_lt al l 0 (by omega)
    refine ⟨by simp, by unfold labelsAt at c; simp; omega, fun b hb => ?_⟩
    rcases List.mem_or_eq_of_mem_set hb with hb | hb
    · exact hl b hb
    · rw [hb]; exact ha
theorem l6Draw_l (b : List Int) (d : Nat) : ∀ (k : Nat) (x i h : Int) (l : List S76) (s e : Int) (n : ByteArray) (f : Int) (out : List S29), x + 1 = (d : Int) → d ≤ 1000 → 2 * d + 16777300 < k → CurOk b i → Dr ⟨l, s, e, n⟩ → DrS out 4 → (1 ≤ out.length ∨ (finger l = f ∧ 0 ≤ x)) →
    ∃ f' r i' h', spec_l6Draw.l0 k x b i h l s e n f out = some (f', r, i', h') ∧ DrS r 4 ∧ 1 ≤ r.length ∧ CurOk b i' := by
  induction d with
  | zero =>
    intro k x i h l s e n f out hx hd hk hc ha ho hf
    obtain ⟨k, rfl⟩ : ∃ m, k = m + 1 := ⟨k - 1, by omega⟩
    simp only [spec_l6Draw.l0]
    rw [if_neg (by omega)]
    refine ⟨_, _, _, _, rfl, ho, ?_, hc⟩
    rcases hf with hf | hf
    · exact hf
    · omega
  | succ d ih =>
    intro k x i h l s e n f out hx hd hk hc ha ho hf
    obtain ⟨k, rfl⟩ : ∃ m, k = m + 2 := ⟨k - 2, by omega⟩
    have hl8 := ha.1
    have ho4 := ho.1
    have step : ∀ t : Bool, (t = true → out.length < 4) → (t = false → 1 ≤ out.length) → ∃ f' r i' h', spec_l6Draw.j1 (k + 1) x t b i h l s e n f out = some (f', r, i', h') ∧ DrS r 4 ∧ 1 ≤ r.length ∧ CurOk b i' := by
      intro t ht ht2
      obtain ⟨l', s', e', n', i1, h1, e1, hl1, hl8', hs, ws, we, hn, c1⟩ := l4Draw_ok b i h k (by omega) hc
      have ha' : Dr ⟨l', s', e', n'⟩ := ⟨hl8', hs, hn⟩
      rw [spec_l6Draw.j1]
      by_cases tt : t = true
      · rw [if_pos tt, spec_PutChain_eq f out (ho.ok (by omega)) l (Nat.le_trans hl8 (by omega)) s e n k (by omega)]
        simp only [Option.bind_some]
        rw [e1]
        simp only [Option.bind_some]
        rw [w64 (by omega) (by omega)]
        obtain ⟨p1, p2, p3⟩ := putChain_dr f out ho.2 l s e n ha
        have := ht tt
        exact ih k (x - 1) i1 h1 l' s' e' n' _ _ (by omega) (by omega) (by omega) c1 ha' ⟨by omega, p3⟩ (Or.inl p2)
      · rw [if_neg tt, e1]
        simp only [Option.bind_some]
        rw [w64 (by omega) (by omega)]
        exact ih k (x - 1) i1 h1 l' s' e' n' _ _ (by omega) (by omega) (by omega) c1 ha' ho (Or.inl (ht2 (Bool.eq_false_iff.2 tt)))
    rw [spec_l6Draw.l0, if_pos (by omega), spec_Finger_eq l (Nat.le_trans hl8 (by omega)) ha.up (k + 1) (by omega)]
    simp only [Option.bind_some]
    by_cases c : finger l = f
    · rw [if_pos c]
      exact step _ (fun h => by have := of_decide_eq_true h; omega) (fun h => by have := of_decide_eq_false h; omega)
    · rw [if_neg c]
      exact step false (fun h => by cases h) (fun _ => by rcases hf with hf | hf; exact hf; exact absurd hf.1 c)
theorem l6Draw_ok (b : List Int) (i h : Int) (k : Nat) (hk : 16780000 < k) (hc : CurOk b i) : ∃ f r i' h', spec_l6Draw.f k b i h = some (f, r, i', h') ∧ DrS r 4 ∧ 1 ≤ r.length ∧ CurOk b i' := by
  unfold spec_l6Draw.f
  obtain ⟨l, s, e, n, i1, h1, e1, hl1, hl8, hs, ws, we, hn, c1⟩ := l4Draw_ok b i h k (by omega) hc
  have ha : Dr ⟨l, s, e, n⟩ := ⟨hl8, hs, hn⟩
  rw [e1]
  simp only [Option.bind_some]
  rw [spec_Finger_eq l (by omega) ha.up k (by omega)]
  simp only [Option.bind_some]
  obtain ⟨x, i2, h2, e2, hx0, hx1, c2⟩ := l1Below_ok b i1 h1 30 c1
  rw [e2]
  simp only [Option.bind_some]
  have := hx1 (by omega)
  exact l6Draw_l b (x + 1).toNat k x i2 h2 l s e n _ [] (by omega) (by omega) (by omega) c2 ha ⟨by simp, by simp⟩ (Or.inr ⟨rfl, hx0⟩)
theorem l6Any_ok (b : List Int) (i h : Int) (k : Nat) (hk : 16780000 < k) (hc : CurOk b i) : ∃ f r i' h', spec_l6Any.f k b i h = some (f, r, i', h') ∧ DrS r 5 ∧ CurOk b i' := by
  unfold spec_l6Any.f
  obtain ⟨f, r, i1, h1, e1, hr, hr1, c1⟩ := l6Draw_ok b i h k hk hc
  have hr4 := hr.1
  rw [e1]
  simp only [Option.bind_some]
  obtain ⟨x, i2, h2, e2, hx0, hx1, c2⟩ := l1Below_ok b i1 h1 8 c1
  rw [e2]
  simp only [Option.bind_some]
  by_cases x0 : x = 0
  · rw [if_pos x0]
    obtain ⟨y, i3, h3, e3, _, _, c3⟩ := l1Below_ok b i2 h2 33 c2
    rw [e3]
    exact ⟨_, _, _, _, rfl, hr.le (by omega), c3⟩
  rw [if_neg x0]
  by_cases x1 : x = 1
  · rw [if_pos x1]
    obtain ⟨l, s, e, n, i3, h3, e3, hl, hs, ws, we, hn, c3⟩ := l4Any_ok b i2 h2 k (by omega) c2
    rw [e3]
    simp only [Option.bind_some]
    rw [if_pos (by omega)]
    exact ⟨_, _, _, _, rfl, hr.add ⟨hl, hs, hn⟩, c3⟩
  rw [if_neg x1]
  by_cases x2 : x = 2
  · have hd := hr.rd 0 (by omega) (by omega)
    rw [if_pos x2, if_pos (by omega), spec_l4Copy_eq _ _ _ _ (Nat.le_trans hd.1 (by omega))]
    simp only [Option.bind_some]
    rw [if_pos (by omega)]
    exact ⟨_, _, _, _, rfl, hr.add hd, c2⟩
  rw [if_neg x2]
  by_cases x3 : x = 3
  · rw [if_pos x3]
    exact ⟨_, _, _, _, rfl, ⟨by simp, by simp⟩, c2⟩
  rw [if_neg x3]
  exact ⟨_, _, _, _, rfl, hr.le (by omega), c2⟩
theorem DrawChainOk_ok (b : List Int) (hb : b.length ≤ 140737488351232) (k : Nat) (hk : b.length + 16780000 < k) : ∃ f l, spec_DrawChainOk.f k b = some (f, l) ∧ DrS l 5 := by
  unfold spec_DrawChainOk.f
  obtain ⟨h, e, c⟩ := l1New_ok b hb k (by omega)
  rw [e]
  simp only [Option.bind_some]
  obtain ⟨f, l, i1, h1, e1, hl, c1⟩ := l6Any_ok b 0 h k (by omega) c
  rw [e1]
  exact ⟨_, _, rfl, hl⟩
theorem DrawSameChain_ok (b : List Int) (hb : b.length ≤ 140737488351232) (k : Nat) (hk : b.length + 16780000 < k) : ∃ f l f' l', spec_DrawSameChain.f k b = some (f, l, f', l') ∧ DrS l 5 ∧ DrS l' 5 := by
  unfold spec_DrawSameChain.f
  obtain ⟨h, e, c⟩ := l1New_ok b hb k (by omega)
  rw [e]
  simp only [Option.bind_some]
  obtain ⟨f, l, i1, h1, e1, hl, c1⟩ := l6Any_ok b 0 h k (by omega) c
  rw [e1]
  simp only [Option.bind_some]
  obtain ⟨t, i2, h2, e2, c2⟩ := l1Once_ok b i1 h1 2 c1
  rw [e2]
  simp only [Option.bind_some]
  by_cases ht : t = true
  · rw [if_pos ht]
    unfold spec_l6Copy.f
    rw [spec_l4All_eq l (hl.ok (by omega)) k (by omega)]
    exact ⟨_, _, _, _, rfl, hl, hl⟩
  · rw [if_neg ht]
    obtain ⟨f', l', i3, h3, e3, hl', c3⟩ := l6Any_ok b i2 h2 k (by omega) c2
    rw [e3]
    exact ⟨_, _, _, _, rfl, hl, hl'⟩
theorem DrawDropOver_ok (b : List Int) (hb : b.length ≤ 140737488351232) (k : Nat) (hk : b.length + 16780000 < k) : ∃ f l x, spec_DrawDropOver.f k b = some (f, l, x) ∧ DrS l 5 := by
  unfold spec_DrawDropOver.f
  obtain ⟨h, e, c⟩ := l1New_ok b hb k (by omega)
  rw [e]
  simp only [Option.bind_some]
  obtain ⟨f, l, i1, h1, e1, hl, c1⟩ := l6Any_ok b 0 h k (by omega) c
  rw [e1]
  simp only [Option.bind_some]
  obtain ⟨y, i2, h2, e2, hy, c2⟩ := l1Int_ok b i1 h1 (([0, 3, 8, 12, 30, 100] : List Int)) (by decide) c1
  rw [e2]
  exact ⟨_, _, _, rfl, hl⟩
theorem DrawInChain_ok (b : List Int) (hb : b.length ≤ 140737488351232) (k : Nat) (hk : b.length + 16780000 < k) : ∃ f l s, spec_DrawInChain.f k b = some (f, l, s) ∧ DrS l 5 := by
  unfold spec_DrawInChain.f
  obtain ⟨h, e, c⟩ := l1New_ok b hb k (by omega)
  rw [e]
  simp only [Option.bind_some]
  obtain ⟨f, l, i1, h1, e1, hl, c1⟩ := l6Any_ok b 0 h k (by omega) c
  rw [e1]
  simp only [Option.bind_some]
  by_cases h0 : l.length = 0
  · rw [if_pos h0]
    obtain ⟨s, i2, h2, e2, _, _, _, c2⟩ := l2Draw_ok b i1 h1 k (by omega) c1
    rw [e2]
    exact ⟨_, _, _, rfl, hl⟩
  rw [if_neg h0]
  obtain ⟨t, i2, h2, e2, c2⟩ := l1Once_ok b i1 h1 2 c1
  rw [e2]
  simp only [Option.bind_some]
  by_cases ht : t = true
  · rw [if_pos ht]
    obtain ⟨x, i3, h3, e3, hx0, hx1, c3⟩ := l1Below_ok b i2 h2 (l.length : Int) c2
    have hx := hx1 (by omega)
    have hd := (hl.rd x hx0 hx).1
    rw [e3]
    simp only [Option.bind_some]
    rw [if_pos ⟨hx0, hx, Nat.lt_of_le_of_lt hd (by omega)⟩]
    exact ⟨_, _, _, rfl, hl⟩
  · rw [if_neg ht]
    obtain ⟨s, i3, h3, e3, _, _, _, c3⟩ := l2Draw_ok b i2 h2 k (by omega) c2
    rw [e3]
    exact ⟨_, _, _, rfl, hl⟩
theorem DrawPutChain_ok (b : List Int) (hb : b.length ≤ 140737488351232) (k : Nat) (hk : b.length + 16780000 < k) : ∃ f l al s e n, spec_DrawPutChain.f k b = some (f, l, al, s, e, n) ∧ DrS l 5 ∧ Dr ⟨al, s, e, n⟩ := by
  unfold spec_DrawPutChain.f
  obtain ⟨h, e, c⟩ := l1New_ok b hb k (by omega)
  rw [e]
  simp only [Option.bind_some]
  obtain ⟨f, l, i1, h1, e1, hl, c1⟩ := l6Any_ok b 0 h k (by omega) c
  rw [e1]
  simp only [Option.bind_some]
  obtain ⟨al, s, e', n, i2, h2, e2, _, hl8, hs, _, _, hn, c2⟩ := l4Draw_ok b i1 h1 k (by omega) c1
  rw [e2]
  simp only [Option.bind_some]
  by_cases h0 : l.length = 0
  · rw [if_pos h0]
    exact ⟨_, _, _, _, _, _, rfl, hl, ⟨hl8, hs, hn⟩⟩
  rw [if_neg h0]
  obtain ⟨t, i3, h3, e3, c3⟩ := l1Once_ok b i2 h2 2 c2
  rw [e3]
  simp only [Option.bind_some]
  by_cases ht : t = true
  · rw [if_pos ht]
    obtain ⟨x, i4, h4, e4, hx0, hx1, c4⟩ := l1Below_ok b i3 h3 (l.length : Int) c3
    have hx := hx1 (by omega)
    have hd := hl.rd x hx0 hx
    rw [e4]
    simp only [Option.bind_some]
    rw [if_pos ⟨hx0, hx, Nat.lt_of_le_of_lt hd.1 (by omega)⟩]
    exact ⟨_, _, _, _, _, _, rfl, hl, ⟨hd.1, hd.2.1, hn⟩⟩
  · rw [if_neg ht]
    exact ⟨_, _, _, _, _, _, rfl, hl, ⟨hl8, hs, hn⟩⟩
/-- The first of a row whose labels are s. -/
theorem at_first (s : List S76) : ∀ (l : List S29) (i : Int) (n : Nat), n < l.length → sameSet (l.getD n z29).f0 s = true → (∀ j < n, sameSet (l.getD j z29).f0 s = false) → atFrom s l i = i + n
  | [], _, _, h, _, _ => by cases h
  | a :: l, i, 0, _, h, _ => by
    unfold atFrom
    rw [if_pos (by simpa using h)]; simp
  | a :: l, i, n + 1, hn, h, hj => by
    unfold atFrom
    have h0 := hj 0 (by omega)
    rw [if_neg (by simp at h0; simp [h0]), at_first s l (i + 1) n (by simpa using hn) (by simpa using h) (fun j hj' => by have := hj (j + 1) (by omega); simpa using this)]
    simp; omega
theorem at_some (s : List S76) : ∀ (l : List S29) (i : Int), (atFrom s l i = -1 ∧ ∀ j < l.length, sameSet (l.getD j z29).f0 s = false) ∨ ∃ n < l.length, atFrom s l i = i + n ∧ sameSet (l.getD n z29).f0 s = true ∧ ∀ j < n, sameSet (l.getD j z29).f0 s = false
  | [], i => Or.inl ⟨by unfold atFrom; rfl, fun j hj => by cases hj⟩
  | a :: l, i => by
    unfold atFrom
    by_cases c : sameSet a.f0 s = true
    · rw [if_pos c]
      exact Or.inr ⟨0, by simp, by simp, by simpa using c, fun j hj => by cases hj⟩
    · rw [if_neg c]
      rcases at_some s l (i + 1) with ⟨h1, h2⟩ | ⟨n, hn, h1, h2, h3⟩
      · refine Or.inl ⟨h1, fun j hj => ?_⟩
        cases j with
        | zero => simpa using c
        | succ j => have := h2 j (by simpa using hj); simpa using this
      · refine Or.inr ⟨n + 1, by simpa using hn, by rw [h1]; omega, by simpa using h2, fun j hj => ?_⟩
        cases j with
        | zero => simpa using c
        | succ j => have := h3 j (by omega); simpa using this
theorem putChain_law (f : Int) (l : List S29) (al : List S76) (s e : Int) (n : ByteArray) : ∃ (lx : List S29) (kc ix : Int), putChain f l al s e n = (f, lx, decide (kc < 0)) ∧ labelsAt l al = kc ∧ labelsAt lx al = ix ∧ l.length ≤ lx.length ∧ 0 ≤ ix ∧ ix < (lx.length : Int) ∧
    (∀ m : Nat, m < l.length → (m : Int) ≠ kc → rd_T29 lx (m : Int) = rd_T29 l (m : Int)) ∧
    (kc < 0 → lx.length = l.length + 1 ∧ rd_T29 lx ix = ⟨al, s, e, n⟩) ∧
    (0 ≤ kc → kc < (l.length : Int) ∧ lx.length = l.length ∧ rd_T29 lx ix = merged (rd_T29 l kc) al s e n) := by
  rcases at_some al l 0 with ⟨h1, h2⟩ | ⟨q, hq, h1, h2, h3⟩
  · have hk : labelsAt l al = -1 := h1
    have hi : labelsAt (l ++ [(⟨al, s, e, n⟩ : S29)]) al = (l.length : Int) := by
      have := at_first al (l ++ [(⟨al, s, e, n⟩ : S29)]) 0 l.length (by simp) (by simp [List.getD_eq_getElem?_getD, sameSet_self]) (fun j hj => by
        have := h2 j hj
        rw [List.getD_eq_getElem?_getD, List.getElem?_append_left hj, ← List.getD_eq_getElem?_getD]
        exact this)
      unfold labelsAt
      simpa using this
    refine ⟨l ++ [⟨al, s, e, n⟩], -1, (l.length : Int), ?_, hk, hi, by simp, by omega, by simp; omega, fun m hm _ => ?_, fun _ => ⟨by simp, ?_⟩, fun h => by omega⟩
    · unfold putChain
      rw [if_pos (by rw [hk]; decide)]
      rfl
    · unfold rd_T29
      rw [Int.toNat_natCast, List.getD_eq_getElem?_getD, List.getElem?_append_left hm, ← List.getD_eq_getElem?_getD]
    · unfold rd_T29
      rw [Int.toNat_natCast]
      simp [List.getD_eq_getElem?_getD]
  · have hk : labelsAt l al = (q : Int) := by unfold labelsAt; rw [h1]; omega
    have get : ∀ (y : S29), (l.set q y).getD q z29 = y := fun y => by simp [List.getD_eq_getElem?_getD, hq]
    have far : ∀ (y : S29) (j : Nat), j ≠ q → (l.set q y).getD j z29 = l.getD j z29 := fun y j hj => by
      rw [List.getD_eq_getElem?_getD, List.getD_eq_getElem?_getD, List.getElem?_set_ne (Ne.symm hj)]
    have hi : labelsAt (l.set q (merged (rd_T29 l (q : Int)) al s e n)) al = (q : Int) := by
      have := at_first al (l.set q (merged (rd_T29 l (q : Int)) al s e n)) 0 q (by simpa using hq) (by rw [get]; exact sameSet_self al) (fun j hj => by rw [far _ j (by omega)]; exact h3 j hj)
      unfold labelsAt; rw [this]; omega
    refine ⟨l.set q (merged (rd_T29 l (q : Int)) al s e n), (q : Int), (q : Int), ?_, hk, hi, by simp, by omega, by simp; omega, fun m hm hne => ?_, fun h => by omega, fun _ => ⟨by omega, by simp, ?_⟩⟩
    · unfold putChain
      rw [hk, if_neg (by omega), decide_eq_false (by omega), Int.toNat_natCast]
    · show (l.set q _).getD (m : Int).toNat z29 = l.getD (m : Int).toNat z29
      rw [Int.toNat_natCast]
      exact far _ m (by omega)
    · show (l.set q _).getD (q : Int).toNat z29 = _
      rw [Int.toNat_natCast]
      exact get _
theorem dropTo_len (x : Int) : ∀ (l o g : List S29), (dropTo x l o g).2.length + (dropTo x l o g).1.length = o.length + g.length + l.length
  | [], o, g => by simp [dropTo]; omega
  | a :: r, o, g => by
    unfold dropTo
    split
    · rw [dropTo_len x r]; simp; omega
    · rw [dropTo_len x r]; simp; omega
theorem dropTo_all (P : S29 → Prop) (x : Int) : ∀ (l o g : List S29), (∀ a ∈ l, P a) → (∀ a ∈ o, P a) → (∀ a ∈ g, P a) → (∀ a ∈ (dropTo x l o g).1, P a) ∧ ∀ a ∈ (dropTo x l o g).2, P a
  | [], o, g, _, ho, hg => ⟨ho, hg⟩
  | a :: r, o, g, hl, ho, hg => by
    have hr : ∀ b ∈ r, P b := fun b hb => hl b (List.mem_cons_of_mem _ hb)
    have hadd : ∀ q : List S29, (∀ b ∈ q, P b) → ∀ b ∈ q ++ [a], P b := by
      intro q hq b hb
      rcases List.mem_append.1 hb with hb | hb
      · exact hq b hb
      · rw [List.mem_singleton.1 hb]; exact hl a List.mem_cons_self
    unfold dropTo
    split
    · exact dropTo_all P x r o _ hr ho (hadd g hg)
    · exact dropTo_all P x r _ g hr (hadd o ho) hg
theorem sameAlarm_self (l : List S76) (s e : Int) (n : ByteArray) : sameAlarm l s e n l s e n = true := by
  unfold sameAlarm
  rw [sameSet_self]; simp
theorem sameChain_self (f : Int) (l : List S29) : sameChain f l f l = true := by
  unfold sameChain sameAlarms
  have h : allFrom (sameAlB l l) l.length 0 = true := allFrom_true (fun i => sameAlarm_self _ _ _ _) _ _
  rw [h]
  simp
theorem sameList_self (l : List S29) (hl : OkAs l) (d : Nat) : ∀ (k : Nat) (i : Int), 0 ≤ i → i + d = (l.length : Int) → 1048577 + d < k → laws_sameList.l0 k l l i = some true := by
  have hl1 := hl.1
  induction d with
  | zero =>
    intro k i h0 hd hk
    obtain ⟨k, rfl⟩ : ∃ m, k = m + 1 := ⟨k - 1, by omega⟩
    simp only [laws_sameList.l0]
    rw [if_neg (by omega)]
  | succ d ih =>
    intro k i h0 hd hk
    obtain ⟨k, rfl⟩ : ∃ m, k = m + 1 := ⟨k - 1, by omega⟩
    have hm := (hl.2 _ (rdA_mem l i h0 (by omega))).1
    simp only [laws_sameList.l0]
    rw [if_pos (by omega), if_pos h0, if_pos (by omega), impl_SameAlarm_eq _ _ _ _ _ _ _ _ (by omega) k (by omega), sameAlarm_self]
    simp only [Option.bind_some]
    rw [if_pos trivial, w64 (by omega) (by omega)]
    exact ih k (i + 1) (by omega) (by omega) (by omega)
theorem FnChains : laws_FnChains.Pure := by
  intro b hb _ _
  obtain ⟨m, hm⟩ : ∃ m : Nat, 35184372088832 < m := ⟨35184372088833, by omega⟩
  refine ⟨m, ?_⟩
  unfold laws_FnChains.Facts laws_big.f
  by_cases hz : (b.length : Int) > 1048576
  · exact .inl (by rw [decide_eq_true hz])
  have hz2 : b.length ≤ 1048576 := by omega
  obtain ⟨fc, lc, la, sa, ea, na, e1, hlc, ha⟩ := DrawPutChain_ok b (by omega) m (by omega)
  obtain ⟨fo, lo, e2, hlo⟩ := DrawChainOk_ok b (by omega) m (by omega)
  obtain ⟨fu, lu, fv, lv, e3, hlu, hlv⟩ := DrawSameChain_ok b (by omega) m (by omega)
  obtain ⟨fd, ld, now, e4, hld⟩ := DrawDropOver_ok b (by omega) m (by omega)
  obtain ⟨fg, lh, ll, e5, hlh⟩ := DrawInChain_ok b (by omega) m (by omega)
  have la8 := ha.1
  have oc := hlc.ok (by omega)
  have od := hld.ok (by omega)
  have oh := hlh.ok (by omega)
  have oo := hlo.ok (by omega)
  have ou := hlu.ok (by omega)
  have c5 := hlc.1
  have d5 := hld.1
  have ip := impl_PutChain_eq fc lc oc la (Nat.le_trans la8 (by omega)) sa ea na m (by omega)
  have sp := spec_PutChain_eq fc lc oc la (Nat.le_trans la8 (by omega)) sa ea na m (by omega)
  obtain ⟨p1, p2, p3⟩ := putChain_dr fc lc hlc.2 la sa ea na ha
  obtain ⟨lx, kc, ix, ep, ek, ei, q1, q2, q3, q4, q5, q6⟩ := putChain_law fc lc la sa ea na
  rw [ep] at ip sp p1 p2 p3
  dsimp only at p1 p2 p3
  have hlx : DrS lx 6 := ⟨by omega, p3⟩
  have ox := hlx.ok (by omega)
  have ik := impl_InChain_eq fc lc la oc m (by omega)
  have ii := impl_InChain_eq fc lx la ox m (by omega)
  rw [ek] at ik
  rw [ei] at ii
  have od1 : ∀ a ∈ ld, a.f0.length ≤ 1048576 := fun a h => (od.2 a h).1
  have dl := dropTo_len now ld [] []
  have sd := spec_DropOver_eq fd ld now od.1 od1 m (by omega)
  have id_ : impl_DropOver4.f m fd ld now = _ := impl_DropOver2_eq fd ld now od.1 od1 m
  have sub : OkAs (dropTo now ld [] []).1 ∧ OkAs (dropTo now ld [] []).2 := by
    obtain ⟨h1, h2⟩ := dropTo_all OkA now ld [] [] od.2 (by simp) (by simp)
    simp only [List.length_nil, Nat.zero_add] at dl
    exact ⟨⟨by omega, h1⟩, ⟨by omega, h2⟩⟩
  generalize dropTo now ld [] [] = pd at dl sd id_ sub
  obtain ⟨le, lg⟩ := pd
  dsimp only at dl sd id_ sub
  simp only [List.length_nil, Nat.zero_add] at dl
  have self : ∀ a : S29, a.f0.length ≤ 1048576 → impl_SameAlarm.f m a.f0 a.f1 a.f2 a.f3 a.f0 a.f1 a.f2 a.f3 = some true := fun a h => by rw [impl_SameAlarm_eq _ _ _ _ _ _ _ _ (by omega) m (by omega), sameAlarm_self]
  have lg1 := sub.2.1
  refine .inr ⟨fc, lc, la, sa, ea, na, fc, lx, decide (kc < 0), fc, lx, fo, lo, fu, lu, fv, lv, fd, ld, now, fd, le, lg, fd, le, lg, fg, lh, ll, chainOk fo lo, sameChain fu lu fv lv, labelsAt lh ll, kc, ix, la, mergeStart (rd_T29 lc kc).f1 (rd_T29 lc kc).f2 sa ea, ea, na, ?_⟩
  refine ⟨by rw [decide_eq_false hz], e1, ip, sp, e2, e3, e4, id_, sd, e5, by rw [impl_SameChain_eq fc lx fc lx ox m (by omega), sameChain_self], impl_ChainOk_eq fo lo oo m (by omega), spec_ChainOk_eq fo lo oo m (by omega), impl_SameChain_eq fu lu fv lv ou m (by omega), spec_SameChain_eq fu lu fv lv ou m (by omega),
    by rw [impl_SameChain_eq fd le fd le sub.1 m (by omega), sameChain_self], ?_, impl_InChain_eq fg lh ll oh m (by omega), spec_InChain_eq fg lh ll oh m (by omega), ik, ii, fun h => ?_, fun h => impl_Merge_eq _ _ _ _ _ _ _ _ (Nat.le_trans la8 (by omega)), fun h => ?_,
    bne_self_eq_false _, bne_self_eq_false _, bne_self_eq_false _, bne_self_eq_false _, decide_eq_false (by omega), bne_self_eq_false _, ?_, q1, fun j hj hne => ?_, q3, fun h => ?_, fun h => (q6 h).1, fun h => ?_⟩
  · unfold laws_sameList.f
    rw [if_pos rfl]
    exact sameList_self lg sub.2 lg.length m 0 (by omega) (by omega) (by omega)
  · rw [(q5 h).2]
    exact self ⟨la, sa, ea, na⟩ (Nat.le_trans la8 (by omega))
  · rw [(q6 h).2.2]
    exact self (merged (rd_T29 lc kc) la sa ea na) (Nat.le_trans la8 (by omega))
  · rw [w64 (by omega) (by omega)]
    exact bne_eq_false_iff_eq.2 (by omega)
  · rw [q4 j hj (bne_iff_ne.1 hne)]
    have := (hlc.rd (j : Int) (by omega) (by omega)).1
    exact self _ (by omega)
  · rw [w64 (by omega) (by omega)]
    exact beq_iff_eq.2 (by have := (q5 h).1; omega)
  · exact beq_iff_eq.2 (by have := (q6 h).2.1; omega)

end Go.Proofs.Ytdhignbneeapiaa.Pure
