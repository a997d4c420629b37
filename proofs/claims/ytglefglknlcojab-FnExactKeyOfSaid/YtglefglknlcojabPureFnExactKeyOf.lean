/- The program's KeyOf returns what the reference's KeyOf returns, for all arguments, and leaves them alone; no conditions. -/
import Derived.Test.YtglefglknlcojabPFnExactKeyOfx5
import Derived.Test.YtglefglknlcojabM0
import Derived.Test.YtglefglknlcojabM1
import Derived.Test.YtglefglknlcojabM2
import Derived.Test.YtglefglknlcojabM3
import Derived.Test.YtglefglknlcojabM4
import Derived.Test.YtglefglknlcojabM5
set_option linter.unusedVariables false
set_option linter.unusedSimpArgs false
namespace Go.Proofs.Ytglefglknlcojab.Pure
open Go.RowKit Go.Proofs.Ytglefglknlcojab.PFnExactKeyOf Go.Proofs.YtglefglknlcojabW.PrintWords Go.Proofs.YtglefglknlcojabW.PrintLast Go.Proofs.Ytglefglknlcojab.M0 Go.Proofs.Ytglefglknlcojab.M1 Go.Proofs.Ytglefglknlcojab.M2 Go.Proofs.Ytglefglknlcojab.M3 Go.Proofs.Ytglefglknlcojab.M4 Go.Proofs.Ytglefglknlcojab.M5

/-! ### LabS -/
def labOf (x : S88) : S90 := ⟨x.f0, x.f1⟩
def labsOf (l : List S88) : List S90 := l.map labOf
def szLab (x : S88) : Nat := x.f0.size + x.f1.size
def szL (l : List S88) : Nat := l.length + (l.map szLab).sum
/-- Sizes that Go knows. -/
def WfL (l : List S88) : Prop := l.length ≤ 9223372036854775807 ∧ ∀ x ∈ l, x.f0.size ≤ 9223372036854775807 ∧ x.f1.size ≤ 9223372036854775807
theorem labsOf_length (l : List S88) : (labsOf l).length = l.length := by simp [labsOf]
theorem len_le_szL (l : List S88) : l.length ≤ szL l := by unfold szL; omega
theorem sum_mem {α : Type} (f : α → Nat) : ∀ (l : List α) (x : α), x ∈ l → f x ≤ (l.map f).sum
  | [], x, h => by simp at h
  | a :: l, x, h => by
    rcases List.mem_cons.1 h with rfl | h
    · simp
    · have := sum_mem f l x h
      simp only [List.map_cons, List.sum_cons]
      omega
theorem laws_szLabel_eq (a b : ByteArray) (ha : a.size ≤ 9223372036854775807) (hb : b.size ≤ 9223372036854775807) (left : Int) (h0 : 0 ≤ left) (h1 : left ≤ 1048576) : laws_szLabel.f a b left = some (left' (a.size + b.size) left) := by
  unfold laws_szLabel.f
  rw [← left_add _ _ _ h0, left_of_wrap ha h0 h1 (fun t => if (wrap64 (t - (b.size : Int))) < 0 then (some (-1)) else (some (wrap64 (t - (b.size : Int)))))]
  by_cases hz : left' a.size left < 0
  · rw [if_pos hz, if_pos hz]
  · rw [if_neg hz, if_neg hz]
    have hle := left_ge h0 hz
    have e : left' a.size left = left - a.size := by unfold left'; rw [if_pos hle]
    rw [left_of_wrap hb (by omega) (by omega) (fun t => some t)]
    by_cases hy : left' b.size (left' a.size left) < 0
    · rw [if_pos hy]
      rw [left_neg_one (by omega) hy]
    · rw [if_neg hy]
theorem rdML_mem (l : List S88) (i : Int) (h0 : 0 ≤ i) (h1 : i < (l.length : Int)) : rd_T88 l i ∈ l := by
  unfold rd_T88
  rw [List.getD_eq_getElem?_getD, List.getElem?_eq_getElem (by omega)]
  exact List.getElem_mem (by omega)
theorem laws_szLabelS_eq (l : List S88) (hl : WfL l) (left : Int) (h0 : 0 ≤ left) (h1 : left ≤ 1048576) (k : Nat) (hk : 1048577 < k) :
    laws_szLabelS.f k l left = some (left' (szL l) left) := by
  unfold laws_szLabelS.f szL
  rw [left_of_wrap (n := l.length) hl.1 h0 h1 (fun t => laws_szLabelS.l0 k l t 0), ← left_add _ _ _ h0]
  by_cases hz : left' l.length left < 0
  · rw [if_pos hz, if_pos hz]
  · rw [if_neg hz, if_neg hz]
    have hle := left_ge h0 hz
    rw [budget_loop l (by omega) szLab z88 0 (fun k t i => laws_szLabelS.l0 k l t i) ?_ ?_ l.length k 0 _ (by omega) (by omega) (by omega) (left_le h1) (by omega)]
    · simp
    · intro k i left _ hi hi' hl0 hl1
      have hm := hl.2 _ (rdML_mem l i hi hi')
      simp only [laws_szLabelS.l0]
      rw [if_pos hi', if_pos hi, laws_szLabel_eq _ _ hm.1 hm.2 _ hl0 hl1]
      rfl
    · intro k left _
      simp only [laws_szLabelS.l0]
      rw [if_neg (by omega)]
theorem laws_toLabelS_eq (l : List S88) (hl : l.length ≤ 1048576) (k : Nat) (hk : 1048577 < k) : laws_toLabelS.f k l = some (labsOf l) := by
  unfold laws_toLabelS.f
  rw [if_pos (by omega), if_pos (by omega)]
  have h := fill_loop l (by omega) labOf z88 0 (fun k out i => laws_toLabelS.l0 k l out i) ?_ ?_ k z90 (by omega)
  · exact h
  · intro k i out _ hi hi' ho
    simp only [laws_toLabelS.l0]
    rw [if_pos hi', if_pos hi]
    simp only [laws_toLabel.f, Option.bind_some]
    rw [if_pos (by omega)]
    rfl
  · intro k out _
    simp only [laws_toLabelS.l0]
    rw [if_neg (by omega)]
theorem sized_labs (l : List S88) (h : szL l ≤ 1048576) : ∀ x ∈ labsOf l, x.f0.size ≤ 1048576 ∧ x.f1.size ≤ 1048576 := by
  intro x hx
  obtain ⟨y, hy, rfl⟩ := List.mem_map.1 hx
  have := sum_mem szLab l y hy
  have h1 : y.f0.size + y.f1.size ≤ (l.map szLab).sum := this
  unfold szL at h
  show y.f0.size ≤ _ ∧ y.f1.size ≤ _
  omega

/-! ### EqL -/
theorem laws_eqLabelS_refl (l : List S90) (hl : l.length ≤ 140737488351232) (k : Nat) (hk : l.length < k) : laws_eqLabelS.f k l l = some true := by
  unfold laws_eqLabelS.f
  rw [if_pos rfl]
  rw [all_loop (n := l.length) (by omega) 0 (fun _ => true) (fun k i => laws_eqLabelS.l0 k l l i) (some true) ?_ ?_ l.length k 0 (by omega) (by omega) (by omega) (by omega)]
  · rw [allFrom_true (fun _ => rfl)]; rfl
  · intro k i _ h0 h1
    simp only [laws_eqLabelS.l0]
    rw [if_pos h1, if_pos h0, if_pos h1]
    simp only [laws_eqLabel.f, Option.bind_some, if_true]
  · intro k _
    simp only [laws_eqLabelS.l0]
    rw [if_neg (by omega)]

/-! ### AlarmS -/
def WfA (l : List S88) (note : ByteArray) : Prop := WfL l ∧ note.size ≤ 9223372036854775807
theorem laws_szAlarm_eq (l : List S88) (s e : Int) (note : ByteArray) (h : WfL l) (hn : note.size ≤ 9223372036854775807) (left : Int) (h0 : 0 ≤ left) (h1 : left ≤ 1048576) (k : Nat) (hk : 1048577 < k) :
    laws_szAlarm.f k l s e note left = some (left' (szL l + note.size) left) := by
  unfold laws_szAlarm.f
  rw [laws_szLabelS_eq l h left h0 h1 k hk, ← left_add _ _ _ h0]
  simp only [Option.bind_some]
  by_cases hz : left' (szL l) left < 0
  · rw [if_pos hz, if_pos hz]
  · rw [if_neg hz, if_neg hz]
    have hle := left_le (t := szL l) h1
    rw [left_of_wrap hn (by omega) hle (fun t => some t)]
    by_cases hy : left' note.size (left' (szL l) left) < 0
    · rw [if_pos hy, left_neg_one (by omega) hy]
    · rw [if_neg hy]
theorem laws_toAlarm_eq (l : List S88) (s e : Int) (note : ByteArray) (hl : l.length ≤ 1048576) (k : Nat) (hk : 1048577 < k) : laws_toAlarm.f k l s e note = some (labsOf l, s, e, note) := by
  unfold laws_toAlarm.f
  rw [laws_toLabelS_eq l hl k hk]
  rfl
theorem laws_eqAlarm_refl (l : List S90) (s e : Int) (note : ByteArray) (hl : l.length ≤ 140737488351232) (k : Nat) (hk : l.length < k) : laws_eqAlarm.f k l s e note l s e note = some true := by
  unfold laws_eqAlarm.f
  rw [laws_eqLabelS_refl l hl k hk]
  simp

/-! ### Strs -/
def szS (l : List ByteArray) : Nat := l.length + (l.map (fun s => s.size)).sum
theorem laws_szStringS_eq (l : List ByteArray) (hl : l.length ≤ 9223372036854775807) (hs : ∀ s ∈ l, s.size ≤ 9223372036854775807) (left : Int) (h0 : 0 ≤ left) (h1 : left ≤ 1048576) (k : Nat) (hk : 1048577 < k) :
    laws_szStringS.f k l left = some (left' (szS l) left) := by
  unfold laws_szStringS.f szS
  rw [left_of_wrap (n := l.length) hl h0 h1 (fun t => laws_szStringS.l0 k l t 0), ← left_add _ _ _ h0]
  by_cases hz : left' l.length left < 0
  · rw [if_pos hz, if_pos hz]
  · rw [if_neg hz, if_neg hz]
    have hle := left_ge h0 hz
    rw [budget_loop l (by omega) (fun s => s.size) ByteArray.empty 0 (fun k t i => laws_szStringS.l0 k l t i) ?_ ?_ l.length k 0 _ (by omega) (by omega) (by omega) (left_le h1) (by omega)]
    · simp
    · intro k i left _ hi hi' hl0 hl1
      simp only [laws_szStringS.l0]
      rw [if_pos hi', if_pos hi]
      have hj : i.toNat < l.length := by omega
      have hb : (rdOf ByteArray.empty l i).size ≤ 9223372036854775807 := by
        show (l.getD i.toNat ByteArray.empty).size ≤ _
        rw [List.getD_eq_getElem?_getD, List.getElem?_eq_getElem hj]
        exact hs _ (List.getElem_mem hj)
      exact left_of_wrap hb hl0 hl1 (fun t => laws_szStringS.l0 k l t (wrap64 (i + 1)))
    · intro k left _
      simp only [laws_szStringS.l0]
      rw [if_neg (by omega)]
theorem laws_toStringS_eq (l : List ByteArray) (hl : l.length ≤ 1048576) (k : Nat) (hk : 1048577 < k) : laws_toStringS.f k l = some l := by
  unfold laws_toStringS.f
  rw [if_pos (by omega), if_pos (by omega)]
  have h := fill_loop l (by omega) (fun s => s) ByteArray.empty 0 (fun k out i => laws_toStringS.l0 k l out i) ?_ ?_ k (⟨#[]⟩ : ByteArray) (by omega)
  · simpa using h
  · intro k i out _ hi hi' ho
    simp only [laws_toStringS.l0]
    rw [if_pos hi', if_pos hi, if_pos (by omega)]
    rfl
  · intro k out _
    simp only [laws_toStringS.l0]
    rw [if_neg (by omega)]
theorem laws_eqStringS_refl (l : List ByteArray) (hl : l.length ≤ 1048576) (k : Nat) (hk : 1048577 < k) : laws_eqStringS.f k l l = some true := by
  unfold laws_eqStringS.f
  rw [if_pos rfl]
  rw [all_loop (n := l.length) (by omega) 0 (fun _ => true) (fun k i => laws_eqStringS.l0 k l l i) (some true) ?_ ?_ l.length k 0 (by omega) (by omega) (by omega) (by omega)]
  · rw [allFrom_true (fun _ => rfl)]; rfl
  · intro k i _ h0 h1
    simp only [laws_eqStringS.l0]
    rw [if_pos h1, if_pos h0, if_pos h1]
  · intro k _
    simp only [laws_eqStringS.l0]
    rw [if_neg (by omega)]
theorem len_le_szS (l : List ByteArray) : l.length ≤ szS l := by unfold szS; omega
theorem sized_strs (l : List ByteArray) (h : szS l ≤ 1048576) : ∀ s ∈ l, s.size ≤ 1048576 := by
  intro s hs
  have key : ∀ (l : List ByteArray), s ∈ l → s.size ≤ (l.map (fun s => s.size)).sum := by
    intro l
    induction l with
    | nil => intro h; simp at h
    | cons a l ih =>
      intro h
      rcases List.mem_cons.1 h with rfl | h
      · simp
      · have := ih h
        simp only [List.map_cons, List.sum_cons]
        omega
  have := key l hs
  unfold szS at h
  omega

/-! ### Project -/
def hasHit (s : ByteArray) (x : ByteArray) : Option Bool := if x.toList = s.toList then some true else none
def hasText (l : List ByteArray) (s : ByteArray) : Bool := seek (hasHit s) false l
theorem spec_l5Has_eq (l : List ByteArray) (hl : l.length ≤ 140737488351232) (s : ByteArray) (k : Nat) (hk : l.length < k) : spec_l5Has.f k l s = some (hasText l s) := by
  unfold spec_l5Has.f hasText
  have h := seek_loop l hl ByteArray.empty (hasHit s) false 0 (fun k i => spec_l5Has.l0 k l s i) ?_ ?_ l.length k 0 (by omega) (by omega) (by omega)
  · exact h
  · intro k i _ h0 h1
    simp only [spec_l5Has.l0, hasHit]
    rw [if_pos h1, if_pos h0]
    show (if (l.getD i.toNat ByteArray.empty).toList = s.toList then _ else _) = _
    split <;> rfl
  · intro k _
    simp only [spec_l5Has.l0]
    rw [if_neg (by omega)]
theorem impl_hasText_eq (l : List ByteArray) (hl : l.length ≤ 140737488351232) (s : ByteArray) (k : Nat) (hk : l.length < k) : impl_hasText.f k l s = some (hasText l s) := by
  unfold impl_hasText.f hasText
  have h := seek_loop l hl ByteArray.empty (hasHit s) false 0 (fun k i => impl_hasText.l0 k s l l.length i) ?_ ?_ l.length k 0 (by omega) (by omega) (by omega)
  · exact h
  · intro k i _ h0 h1
    simp only [impl_hasText.l0, hasHit]
    rw [if_pos h1, if_pos h0, if_pos h1]
    show (if (l.getD i.toNat ByteArray.empty).toList = s.toList then _ else _) = _
    split <;> rfl
  · intro k _
    simp only [impl_hasText.l0]
    rw [if_neg (by omega)]
def keepL (bys : List ByteArray) (x : S90) : List S90 := if hasText bys x.f0 = true then [x] else []
def project (l : List S90) (bys : List ByteArray) : List S90 := l.flatMap (keepL bys)
theorem keepL_le (bys : List ByteArray) (x : S90) : (keepL bys x).length ≤ 1 := by unfold keepL; split <;> simp
theorem project_le (l : List S90) (bys : List ByteArray) : (project l bys).length ≤ l.length := by
  unfold project
  induction l with
  | nil => simp
  | cons x l ih =>
    have := keepL_le bys x
    simp only [List.flatMap_cons, List.length_append, List.length_cons]
    omega
theorem project_mem (l : List S90) (bys : List ByteArray) (x : S90) (h : x ∈ project l bys) : x ∈ l := by
  unfold project at h
  obtain ⟨y, hy, hx⟩ := List.mem_flatMap.1 h
  unfold keepL at hx
  split at hx
  · rw [List.mem_singleton.1 hx]; exact hy
  · simp at hx
theorem spec_Project_eq (l : List S90) (bys : List ByteArray) (hl : l.length ≤ 1048576) (hb : bys.length ≤ 1048576) (k : Nat) (hk : 4194304 < k) : spec_Project.f k l bys = some (project l bys) := by
  unfold spec_Project.f project
  have h := keep_loop l (by omega) z90 (keepL bys) (keepL_le bys) 1048577 (fun k out i => spec_Project.l0 k l bys out i) ?_ ?_ l.length k 0 [] (by omega) (by omega) (by simp) (by omega)
  · simpa using h
  · intro k i out hk h0 h1 ho
    simp only [spec_Project.l0]
    rw [if_pos h1, if_pos h0, spec_l5Has_eq bys (by omega) _ k (by omega)]
    simp only [Option.bind_some]
    show (if hasText bys (l.getD i.toNat z90).f0 = true then _ else _) = _
    unfold keepL
    by_cases hh : hasText bys (l.getD i.toNat z90).f0 = true
    · rw [if_pos hh, if_pos hh, if_pos (by omega)]; rfl
    · rw [if_neg hh, if_neg hh, List.append_nil]
  · intro k out _
    simp only [spec_Project.l0]
    rw [if_neg (by omega)]
theorem impl_Project_eq (l : List S90) (bys : List ByteArray) (hl : l.length ≤ 1048576) (hb : bys.length ≤ 1048576) (k : Nat) (hk : 4194304 < k) : impl_Project.f k l bys = some (project l bys) := by
  unfold impl_Project.f project
  have h := keep_loop l (by omega) z90 (keepL bys) (keepL_le bys) 1048577 (fun k out i => impl_Project.l0 k bys out l l.length i) ?_ ?_ l.length k 0 [] (by omega) (by omega) (by simp) (by omega)
  · simpa using h
  · intro k i out hk h0 h1 ho
    simp only [impl_Project.l0]
    rw [if_pos h1, if_pos h0, if_pos h1, impl_hasText_eq bys (by omega) _ k (by omega)]
    simp only [Option.bind_some]
    show (if hasText bys (l.getD i.toNat z90).f0 = true then _ else _) = _
    unfold keepL
    by_cases hh : hasText bys (l.getD i.toNat z90).f0 = true
    · rw [if_pos hh, if_pos hh, if_pos (by omega)]; rfl
    · rw [if_neg hh, if_neg hh, List.append_nil]
  · intro k out _
    simp only [impl_Project.l0]
    rw [if_neg (by omega)]

/-! ### KeyOf -/
theorem spec_KeyOf_eq (l : List S90) (s e : Int) (n : ByteArray) (bys : List ByteArray) (hl : l.length ≤ 1048576) (hb : bys.length ≤ 1048576) (k : Nat) (hk : 4194304 < k) : spec_KeyOf.f k l s e n bys = some (project l bys) := by
  unfold spec_KeyOf.f
  rw [spec_Project_eq l bys hl hb k hk]; rfl
theorem impl_KeyOf_eq (l : List S90) (s e : Int) (n : ByteArray) (bys : List ByteArray) (hl : l.length ≤ 1048576) (hb : bys.length ≤ 1048576) (k : Nat) (hk : 4194304 < k) : impl_KeyOf.f k l s e n bys = some (project l bys) := by
  unfold impl_KeyOf.f
  rw [impl_Project_eq l bys hl hb k hk]; rfl

/-! ### MarkText -/
def markLoop : Nat → Int → ByteArray → ByteArray
  | 0, _, s => (⟨#[109]⟩ : ByteArray) ++ s
  | d + 1, x, s => if x > 0 then markLoop d (Int.tdiv x 10) ((strOfNums [(wrap64 (48 + (Int.tmod x 10))) % 256]) ++ s) else (⟨#[109]⟩ : ByteArray) ++ s
def markOf (n : Int) : ByteArray := if n ≤ 0 then (⟨#[109, 48]⟩ : ByteArray) else markLoop 20 n (⟨#[]⟩ : ByteArray)
theorem strOf1 (c : Int) : (strOfNums [c]).size = 1 := by simp [strOfNums, ByteArray.size]
theorem markLoop_eq (d : Nat) : ∀ (k : Nat) (x : Int) (s : ByteArray), 0 ≤ x → x < 10 ^ d → x < 9223372036854775807 → s.size + d ≤ 1000 → d < k → laws_markText.l0 k x s = some (markLoop d x s) := by
  induction d with
  | zero =>
    intro k x s h0 h1 _ hs hk
    obtain ⟨k, rfl⟩ : ∃ m, k = m + 1 := ⟨k - 1, by omega⟩
    simp only [laws_markText.l0, markLoop]
    rw [if_neg (by omega), if_pos (by omega)]
  | succ d ih =>
    intro k x s h0 h1 h2 hs hk
    obtain ⟨k, rfl⟩ : ∃ m, k = m + 1 := ⟨k - 1, by omega⟩
    simp only [laws_markText.l0, markLoop]
    by_cases hx : x > 0
    · rw [if_pos hx, if_pos hx]
      simp only [Option.bind_some]
      have e : Int.tdiv x 10 = x / 10 := Int.tdiv_eq_ediv_of_nonneg h0
      have h10 : (10 : Int) ^ (d + 1) = 10 ^ d * 10 := Int.pow_succ 10 d
      rw [if_pos (by rw [strOf1]; omega), w64 (x := Int.tdiv x 10) (by omega) (by omega)]
      refine ih k _ _ (by omega) (by rw [e]; omega) (by omega) ?_ (by omega)
      rw [ByteArray.size_append, strOf1]
      omega
    · rw [if_neg hx, if_neg hx, if_pos (by omega)]
theorem markText_eq (n : Int) (hn : n ≤ 4611686018427387904) (k : Nat) (hk : 21 < k) : laws_markText.f k n = some (markOf n) := by
  unfold laws_markText.f markOf
  by_cases h : n ≤ 0
  · rw [if_pos h, if_pos h]
  · rw [if_neg h, if_neg h]
    exact markLoop_eq 20 k n _ (by omega) (by omega) (by omega) (by decide) (by omega)

/-! ### MarkL -/
def mkLab (b : S90) (x : Int) : S90 := ⟨markOf x, markOf (x + 1)⟩
theorem laws_markLabelS_eq (l : List S90) (hl : l.length ≤ 140737488351232) (x : Int) (h0 : 0 ≤ x) (hx : x + 2 * l.length ≤ 4611686018427387902) (k : Nat) (hk : 22 + l.length < k) :
    laws_markLabelS.f k l x = some (x + 2 * l.length, markAll mkLab (fun _ => 2) l x) := by
  have ht : total (fun _ : S90 => 2) l = 2 * l.length := total_const 2 l
  have h := mark_loop mkLab (fun _ => 2) 22 4611686018427387902 (fun _ => True) (fun k l x i => laws_markLabelS.l0 k l x i) ?_ ?_ l [] k x h0 (by rw [ht]; omega) hl (fun _ _ => trivial) (by omega)
  · rw [ht] at h
    simpa [laws_markLabelS.f] using h
  · intro k pre b rest x hk h0 hB hn _
    simp only [laws_markLabelS.l0]
    have hlen : (pre ++ b :: rest).length = pre.length + rest.length + 1 := by simp; omega
    rw [if_pos (by rw [hlen]; omega), markText_eq x (by omega) k (by omega)]
    simp only [Option.bind_some]
    rw [if_pos (by omega), w64 (x := x + 1) (by omega) (by omega), markText_eq (x + 1) (by omega) k (by omega)]
    simp only [Option.bind_some, Int.toNat_natCast, set_pre, List.set_set]
    rw [w64 (x := x + 1 + 1) (by omega) (by omega), w64 (x := (pre.length : Int) + 1) (by omega) (by omega)]
    have hr : (rd_T90 (pre ++ ⟨markOf x, (rd_T90 (pre ++ b :: rest) pre.length).f1⟩ :: rest) pre.length).f0 = markOf x := by
      unfold rd_T90
      simp only [Int.toNat_natCast, getD_pre]
    rw [hr]
    have e : x + 1 + 1 = x + ((2 : Nat) : Int) := by omega
    rw [e]
    rfl
  · intro k l x _
    simp only [laws_markLabelS.l0]
    rw [if_neg (by omega)]
theorem laws_heldLabelS_eq (l : List S90) (hl : l.length ≤ 140737488351232) (x : Int) (h0 : 0 ≤ x) (hx : x + 2 * l.length ≤ 4611686018427387902) (k : Nat) (hk : 22 + l.length < k) :
    laws_heldLabelS.f k (markAll mkLab (fun _ => 2) l x) x = some (x + 2 * l.length) := by
  have ht : total (fun _ : S90 => 2) l = 2 * l.length := total_const 2 l
  have h := held_loop mkLab (fun _ => 2) 22 4611686018427387902 (fun _ => True) (fun k l x i => laws_heldLabelS.l0 k l x i) ?_ ?_ l [] k x h0 (by rw [ht]; omega) hl (fun _ _ => trivial) (by omega)
  · rw [ht] at h
    simpa [laws_heldLabelS.f] using h
  · intro k pre b rest x hk h0 hB hn _
    have hlen : (pre ++ mkLab b x :: rest).length = pre.length + rest.length + 1 := by simp; omega
    have hr : rd_T90 (pre ++ mkLab b x :: rest) pre.length = mkLab b x := by
      unfold rd_T90
      simp only [Int.toNat_natCast, getD_pre]
    simp only [laws_heldLabelS.l0]
    rw [if_pos (by rw [hlen]; omega), if_pos (by omega), markText_eq x (by omega) k (by omega), hr]
    simp only [Option.bind_some, mkLab, if_true]
    rw [w64 (x := x + 1) (by omega) (by omega), markText_eq (x + 1) (by omega) k (by omega)]
    simp only [Option.bind_some, if_true]
    rw [w64 (x := x + 1 + 1) (by omega) (by omega), w64 (x := (pre.length : Int) + 1) (by omega) (by omega)]
    have e : x + 1 + 1 = x + ((2 : Nat) : Int) := by omega
    rw [e]
    rfl
  · intro k l x _
    simp only [laws_heldLabelS.l0]
    rw [if_neg (by omega)]

/-! ### MarkA -/
theorem laws_markAlarm_eq (l : List S90) (s e : Int) (n : ByteArray) (hl : l.length ≤ 140737488351232) (x : Int) (h0 : 0 ≤ x) (hx : x + 2 * l.length ≤ 4611686018427387902) (k : Nat) (hk : 22 + l.length < k) :
    laws_markAlarm.f k l s e n x = some (x + 2 * (l.length : Int), markAll mkLab (fun _ => 2) l x) := by
  unfold laws_markAlarm.f
  rw [laws_markLabelS_eq l hl x h0 hx k hk]; rfl

/-! ### MarkS -/
theorem laws_markStringS_eq (l : List ByteArray) (hl : l.length ≤ 140737488351232) (x : Int) (h0 : 0 ≤ x) (hx : x + l.length ≤ 4611686018427387902) (k : Nat) (hk : 22 + l.length < k) :
    laws_markStringS.f k l x = some (x + l.length, markAll (fun _ x => markOf x) (fun _ => 1) l x) := by
  have ht : total (fun _ : ByteArray => 1) l = l.length := by rw [total_const 1 l]; omega
  have h := mark_loop (fun (_ : ByteArray) x => markOf x) (fun _ => 1) 22 4611686018427387902 (fun _ => True) (fun k l x i => laws_markStringS.l0 k l x i) ?_ ?_ l [] k x h0 (by rw [ht]; omega) hl (fun _ _ => trivial) (by omega)
  · rw [ht] at h
    simpa [laws_markStringS.f] using h
  · intro k pre b rest x hk h0 hB hn _
    simp only [laws_markStringS.l0]
    have hlen : (pre ++ b :: rest).length = pre.length + rest.length + 1 := by simp; omega
    rw [if_pos (by rw [hlen]; omega), markText_eq x (by omega) k (by omega)]
    simp only [Option.bind_some]
    rw [if_pos (by omega), w64 (x := x + 1) (by omega) (by omega), w64 (x := (pre.length : Int) + 1) (by omega) (by omega)]
    simp only [Int.toNat_natCast, set_pre]
    rfl
  · intro k l x _
    simp only [laws_markStringS.l0]
    rw [if_neg (by omega)]

theorem FnExactKeyOf (aL : List S88) (aS aE : Int) (aN : ByteArray) (b : List ByteArray) (ha : (aL.length ≤ 9223372036854775807 ∧ ∀ b ∈ aL, b.f0.size ≤ 9223372036854775807 ∧ b.f1.size ≤ 9223372036854775807) ∧ (Lit.int .i64 aS).wf = true ∧ (Lit.int .i64 aE).wf = true ∧ aN.size ≤ 9223372036854775807) (hb : b.length ≤ 9223372036854775807 ∧ ∀ s ∈ b, s.size ≤ 9223372036854775807) : ∃ k, laws_FnExactKeyOf.f k aL aS aE aN b = some true := by
  obtain ⟨m, hm⟩ : ∃ m : Nat, 16777216 < m := ⟨16777217, by omega⟩
  have hm1 : 16777216 < m + 1 := by omega
  have hm2 : 16777216 < m + 2 := by omega
  have hm11 : 16777216 < m + 1 + 1 := by omega
  refine ⟨m + 2, ?_⟩
  unfold laws_FnExactKeyOf.f
  obtain ⟨left1, hleft1⟩ : ∃ x, x = left' ((szL aL + aN.size)) 1048576 := ⟨_, rfl⟩
  rw [laws_szAlarm_eq aL aS aE aN ha.1 ha.2.2.2 _ (by omega) (by omega) _ (by omega), ← hleft1]
  simp only [Option.bind_some]
  by_cases hz1 : left1 < 0
  · rw [if_pos hz1]
  rw [if_neg hz1]
  have hb1 : (((szL aL + aN.size) : Nat) : Int) ≤ 1048576 := left_ge (by omega) (by rw [← hleft1]; exact hz1)
  have hc1 : left1 ≤ 1048576 := by rw [hleft1]; exact left_le (by omega)
  obtain ⟨left2, hleft2⟩ : ∃ x, x = left' (szS b) left1 := ⟨_, rfl⟩
  rw [laws_szStringS_eq b hb.1 hb.2 _ (by omega) (by omega) _ (by omega), ← hleft2]
  simp only [Option.bind_some]
  by_cases hz2 : left2 < 0
  · rw [if_pos hz2]
  rw [if_neg hz2]
  have hb2 : ((szS b : Nat) : Int) ≤ left1 := left_ge (by omega) (by rw [← hleft2]; exact hz2)
  have hc2 : left2 ≤ 1048576 := by rw [hleft2]; exact left_le (by omega)
  clear hleft1
  clear hleft2
  have la : aL.length ≤ 1048576 := by have := len_le_szL aL; omega
  have qa : (labsOf aL).length ≤ 1048576 := by rw [labsOf_length]; exact la
  have za := sized_labs aL (by omega)
  have na : aN.size ≤ 1048576 := by omega
  have ta : ∀ k, 16777216 < k → laws_toAlarm.f k aL aS aE aN = some (labsOf aL, aS, aE, aN) := fun k hk => laws_toAlarm_eq aL aS aE aN la k (by omega)
  have ea : ∀ k, 16777216 < k → laws_eqAlarm.f k (labsOf aL) aS aE aN (labsOf aL) aS aE aN = some true := fun k hk => laws_eqAlarm_refl _ _ _ _ (by omega) k (by omega)
  have lb : b.length ≤ 1048576 := by have := len_le_szS b; omega
  have zb := sized_strs b (by omega)
  have tb : ∀ k, 16777216 < k → laws_toStringS.f k b = some b := fun k hk => laws_toStringS_eq b lb k (by omega)
  have eb : ∀ k, 16777216 < k → laws_eqStringS.f k b b = some true := fun k hk => laws_eqStringS_refl _ (by omega) k (by omega)
  have pl : (project (labsOf aL) b).length ≤ 1048576 := Nat.le_trans (project_le _ _) qa
  have sF : ∀ k, 16777216 < k → spec_KeyOf.f k (labsOf aL) aS aE aN b = some (project (labsOf aL) b) := fun k hk => spec_KeyOf_eq _ _ _ _ _ (by omega) (by omega) k (by omega)
  have iF : ∀ k, 16777216 < k → impl_KeyOf.f k (labsOf aL) aS aE aN b = some (project (labsOf aL) b) := fun k hk => impl_KeyOf_eq _ _ _ _ _ (by omega) (by omega) k (by omega)
  have eF : ∀ k, 16777216 < k → laws_eqLabelS.f k (project (labsOf aL) b) (project (labsOf aL) b) = some true := fun k hk => laws_eqLabelS_refl _ (by omega) k (by omega)
  have m1 : ∀ k, 16777216 < k → laws_markAlarm.f k (labsOf aL) aS aE aN 1 = some (1 + 2 * ((labsOf aL).length : Int), markAll mkLab (fun _ => 2) (labsOf aL) 1) := fun k hk => laws_markAlarm_eq _ _ _ _ (by omega) _ (by omega) (by omega) k (by omega)
  have m2 : ∀ k, 16777216 < k → laws_markStringS.f k b (1 + 2 * ((labsOf aL).length : Int)) = some (1 + 2 * ((labsOf aL).length : Int) + (b.length : Int), markAll (fun _ x => markOf x) (fun _ => 1) b (1 + 2 * ((labsOf aL).length : Int))) := fun k hk => laws_markStringS_eq _ (by omega) _ (by omega) (by omega) k (by omega)
  have m3 : ∀ k, 16777216 < k → laws_markLabelS.f k (project (labsOf aL) b) (1) = some (1 + 2 * ((project (labsOf aL) b).length : Int), markAll mkLab (fun _ => 2) (project (labsOf aL) b) (1)) := fun k hk => laws_markLabelS_eq _ (by omega) _ (by omega) (by omega) k (by omega)
  have d3 : ∀ k, 16777216 < k → laws_heldLabelS.f k (markAll mkLab (fun _ => 2) (project (labsOf aL) b) (1)) (1) = some (1 + 2 * ((project (labsOf aL) b).length : Int)) := fun k hk => laws_heldLabelS_eq _ (by omega) _ (by omega) (by omega) k (by omega)
  have n1 : ((1 + 2 * ((labsOf aL).length : Int) + (b.length : Int) : Int) < 0) = False := eq_false (by omega)
  have n2 : ((1 + 2 * ((project (labsOf aL) b).length : Int) : Int) < 0) = False := eq_false (by omega)
  simp only [pl, sF, iF, eF, m1, m2, m3, d3, n1, n2, ta, tb, ea, eb, hm, hm1, hm2, hm11, Option.bind_some, bne_self_eq_false, beq_self_eq_true, if_true, Bool.false_eq_true, if_false, Bool.not_true, Bool.not_false, laws_FnExactKeyOf.j0]

end Go.Proofs.Ytglefglknlcojab.Pure
