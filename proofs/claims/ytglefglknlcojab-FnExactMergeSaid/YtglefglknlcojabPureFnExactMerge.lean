/- The program's Merge returns what the reference's Merge returns, for all arguments, and leaves them alone; no conditions. -/
import Derived.Test.YtglefglknlcojabPFnExactMergex4
import Derived.Test.YtglefglknlcojabM0
import Derived.Test.YtglefglknlcojabM1
import Derived.Test.YtglefglknlcojabM2
import Derived.Test.YtglefglknlcojabM3
import Derived.Test.YtglefglknlcojabM4
set_option linter.unusedVariables false
set_option linter.unusedSimpArgs false
namespace Go.Proofs.Ytglefglknlcojab.Pure
open Go.RowKit Go.Proofs.Ytglefglknlcojab.PFnExactMerge Go.Proofs.YtglefglknlcojabW.PrintWords Go.Proofs.YtglefglknlcojabW.PrintLast Go.Proofs.Ytglefglknlcojab.M0 Go.Proofs.Ytglefglknlcojab.M1 Go.Proofs.Ytglefglknlcojab.M2 Go.Proofs.Ytglefglknlcojab.M3 Go.Proofs.Ytglefglknlcojab.M4

/-! ### LabS -/
def labOf (x : S88) : S90 := ⟨x.f0, x.f1⟩
def labsOf (l : List S88) : List S90 := l.map labOf
def szLab (x : S88) : Nat := x.f0.size + x.f1.size
def szL (l : List S88) : Nat := l.length + (l.map szLab).sum
/-- Sizes that Go knows. -/
def WfL (l : List S88) : Prop := l.length ≤ 9223372036854775807 ∧ ∀ x ∈ l, x.f0.size ≤ 9223372036854775807 ∧ x.f1.size ≤ 9223372036854775807
theorem labsOf_length (l : List S88) : (labsOf l).length = l.length := by simp [labsOf]
theorem len_le_szL (l : List S88) : l.length ≤ szL l := by unfold szL; omega
theorem sum_mem {α : Type} (f : α → Nat) : ∀ (l : List α) (x : α), x ∈ l → f x ≤ (l.map f).sum
  | [], x, h => by simp at h
  | a :: l, x, h => by
    rcases List.mem_cons.1 h with rfl | h
    · simp
    · have := sum_mem f l x h
      simp only [List.map_cons, List.sum_cons]
      omega
theorem laws_szLabel_eq (a b : ByteArray) (ha : a.size ≤ 9223372036854775807) (hb : b.size ≤ 9223372036854775807) (left : Int) (h0 : 0 ≤ left) (h1 : left ≤ 1048576) : laws_szLabel.f a b left = some (left' (a.size + b.size) left) := by
  unfold laws_szLabel.f
  rw [← left_add _ _ _ h0, left_of_wrap ha h0 h1 (fun t => if (wrap64 (t - (b.size : Int))) < 0 then (some (-1)) else (some (wrap64 (t - (b.size : Int)))))]
  by_cases hz : left' a.size left < 0
  · rw [if_pos hz, if_pos hz]
  · rw [if_neg hz, if_neg hz]
    have hle := left_ge h0 hz
    have e : left' a.size left = left - a.size := by unfold left'; rw [if_pos hle]
    rw [left_of_wrap hb (by omega) (by omega) (fun t => some t)]
    by_cases hy : left' b.size (left' a.size left) < 0
    · rw [if_pos hy]
      rw [left_neg_one (by omega) hy]
    · rw [if_neg hy]
theorem rdML_mem (l : List S88) (i : Int) (h0 : 0 ≤ i) (h1 : i < (l.length : Int)) : rd_T88 l i ∈ l := by
  unfold rd_T88
  rw [List.getD_eq_getElem?_getD, List.getElem?_eq_getElem (by omega)]
  exact List.getElem_mem (by omega)
theorem laws_szLabelS_eq (l : List S88) (hl : WfL l) (left : Int) (h0 : 0 ≤ left) (h1 : left ≤ 1048576) (k : Nat) (hk : 1048577 < k) :
    laws_szLabelS.f k l left = some (left' (szL l) left) := by
  unfold laws_szLabelS.f szL
  rw [left_of_wrap (n := l.length) hl.1 h0 h1 (fun t => laws_szLabelS.l0 k l t 0), ← left_add _ _ _ h0]
  by_cases hz : left' l.length left < 0
  · rw [if_pos hz, if_pos hz]
  · rw [if_neg hz, if_neg hz]
    have hle := left_ge h0 hz
    rw [budget_loop l (by omega) szLab z88 0 (fun k t i => laws_szLabelS.l0 k l t i) ?_ ?_ l.length k 0 _ (by omega) (by omega) (by omega) (left_le h1) (by omega)]
    · simp
    · intro k i left _ hi hi' hl0 hl1
      have hm := hl.2 _ (rdML_mem l i hi hi')
      simp only [laws_szLabelS.l0]
      rw [if_pos hi', if_pos hi, laws_szLabel_eq _ _ hm.1 hm.2 _ hl0 hl1]
      rfl
    · intro k left _
      simp only [laws_szLabelS.l0]
      rw [if_neg (by omega)]
theorem laws_toLabelS_eq (l : List S88) (hl : l.length ≤ 1048576) (k : Nat) (hk : 1048577 < k) : laws_toLabelS.f k l = some (labsOf l) := by
  unfold laws_toLabelS.f
  rw [if_pos (by omega), if_pos (by omega)]
  have h := fill_loop l (by omega) labOf z88 0 (fun k out i => laws_toLabelS.l0 k l out i) ?_ ?_ k z90 (by omega)
  · exact h
  · intro k i out _ hi hi' ho
    simp only [laws_toLabelS.l0]
    rw [if_pos hi', if_pos hi]
    simp only [laws_toLabel.f, Option.bind_some]
    rw [if_pos (by omega)]
    rfl
  · intro k out _
    simp only [laws_toLabelS.l0]
    rw [if_neg (by omega)]
theorem sized_labs (l : List S88) (h : szL l ≤ 1048576) : ∀ x ∈ labsOf l, x.f0.size ≤ 1048576 ∧ x.f1.size ≤ 1048576 := by
  intro x hx
  obtain ⟨y, hy, rfl⟩ := List.mem_map.1 hx
  have := sum_mem szLab l y hy
  have h1 : y.f0.size + y.f1.size ≤ (l.map szLab).sum := this
  unfold szL at h
  show y.f0.size ≤ _ ∧ y.f1.size ≤ _
  omega

/-! ### EqL -/
theorem laws_eqLabelS_refl (l : List S90) (hl : l.length ≤ 140737488351232) (k : Nat) (hk : l.length < k) : laws_eqLabelS.f k l l = some true := by
  unfold laws_eqLabelS.f
  rw [if_pos rfl]
  rw [all_loop (n := l.length) (by omega) 0 (fun _ => true) (fun k i => laws_eqLabelS.l0 k l l i) (some true) ?_ ?_ l.length k 0 (by omega) (by omega) (by omega) (by omega)]
  · rw [allFrom_true (fun _ => rfl)]; rfl
  · intro k i _ h0 h1
    simp only [laws_eqLabelS.l0]
    rw [if_pos h1, if_pos h0, if_pos h1]
    simp only [laws_eqLabel.f, Option.bind_some, if_true]
  · intro k _
    simp only [laws_eqLabelS.l0]
    rw [if_neg (by omega)]

/-! ### AlarmS -/
def WfA (l : List S88) (note : ByteArray) : Prop := WfL l ∧ note.size ≤ 9223372036854775807
theorem laws_szAlarm_eq (l : List S88) (s e : Int) (note : ByteArray) (h : WfL l) (hn : note.size ≤ 9223372036854775807) (left : Int) (h0 : 0 ≤ left) (h1 : left ≤ 1048576) (k : Nat) (hk : 1048577 < k) :
    laws_szAlarm.f k l s e note left = some (left' (szL l + note.size) left) := by
  unfold laws_szAlarm.f
  rw [laws_szLabelS_eq l h left h0 h1 k hk, ← left_add _ _ _ h0]
  simp only [Option.bind_some]
  by_cases hz : left' (szL l) left < 0
  · rw [if_pos hz, if_pos hz]
  · rw [if_neg hz, if_neg hz]
    have hle := left_le (t := szL l) h1
    rw [left_of_wrap hn (by omega) hle (fun t => some t)]
    by_cases hy : left' note.size (left' (szL l) left) < 0
    · rw [if_pos hy, left_neg_one (by omega) hy]
    · rw [if_neg hy]
theorem laws_toAlarm_eq (l : List S88) (s e : Int) (note : ByteArray) (hl : l.length ≤ 1048576) (k : Nat) (hk : 1048577 < k) : laws_toAlarm.f k l s e note = some (labsOf l, s, e, note) := by
  unfold laws_toAlarm.f
  rw [laws_toLabelS_eq l hl k hk]
  rfl
theorem laws_eqAlarm_refl (l : List S90) (s e : Int) (note : ByteArray) (hl : l.length ≤ 140737488351232) (k : Nat) (hk : l.length < k) : laws_eqAlarm.f k l s e note l s e note = some true := by
  unfold laws_eqAlarm.f
  rw [laws_eqLabelS_refl l hl k hk]
  simp

/-! ### CopyA -/
theorem impl_copySet_eq (l : List S90) (hl : l.length ≤ 1099511627776) : impl_copySet.f l = some l := by
  unfold impl_copySet.f
  rw [if_pos (by omega)]
theorem impl_copyAlarm_eq (l : List S90) (s e : Int) (n : ByteArray) (hl : l.length ≤ 1099511627776) : impl_copyAlarm.f l s e n = some (l, s, e, n) := by
  unfold impl_copyAlarm.f
  rw [impl_copySet_eq l hl]; rfl
theorem spec_l4Copy_eq (l : List S90) (s e : Int) (n : ByteArray) (hl : l.length ≤ 1099511627776) : spec_l4Copy.f l s e n = some (l, s, e, n) := by
  unfold spec_l4Copy.f
  simp only [Option.bind_some, List.length_nil, List.nil_append]
  rw [if_pos (by omega)]

/-! ### Touch -/
def touch (s e s' e' : Int) : Bool := decide (s ≤ e') && decide (s' ≤ e)
theorem spec_Touch_eq (l : List S90) (s e : Int) (n : ByteArray) (l' : List S90) (s' e' : Int) (n' : ByteArray) : spec_Touch.f l s e n l' s' e' n' = some (touch s e s' e') := by
  unfold spec_Touch.f touch
  by_cases h : s ≤ e' <;> simp [h]
theorem impl_Touch_eq (l : List S90) (s e : Int) (n : ByteArray) (l' : List S90) (s' e' : Int) (n' : ByteArray) : impl_Touch.f l s e n l' s' e' n' = some (touch s e s' e') := by
  unfold impl_Touch.f touch
  by_cases h : s ≤ e' <;> simp [h]

/-! ### Least -/
theorem spec_Least_eq (a b : Int) : spec_Least.f a b = some (mn a b) := by
  unfold spec_Least.f
  split <;> (congr 1; unfold mn; omega)

/-! ### Merge -/
def mergeStart (s e s' e' : Int) : Int := if touch s e s' e' = true then mn s s' else s'
theorem spec_Merge_eq (l : List S90) (s e : Int) (n : ByteArray) (l' : List S90) (s' e' : Int) (n' : ByteArray) (hl : l'.length ≤ 1099511627776) : spec_Merge.f l s e n l' s' e' n' = some (l', mergeStart s e s' e', e', n') := by
  unfold spec_Merge.f mergeStart
  rw [spec_l4Copy_eq l' s' e' n' hl, spec_Touch_eq]
  simp only [Option.bind_some, spec_Least_eq]
  split <;> rfl
theorem impl_Merge_eq (l : List S90) (s e : Int) (n : ByteArray) (l' : List S90) (s' e' : Int) (n' : ByteArray) (hl : l'.length ≤ 1099511627776) : impl_Merge.f l s e n l' s' e' n' = some (l', mergeStart s e s' e', e', n') := by
  unfold impl_Merge.f mergeStart
  rw [impl_copyAlarm_eq l' s' e' n' hl, impl_Touch_eq]
  simp only [Option.bind_some]
  split <;> rfl

/-! ### MarkText -/
def markLoop : Nat → Int → ByteArray → ByteArray
  | 0, _, s => (⟨#[109]⟩ : ByteArray) ++ s
  | d + 1, x, s => if x > 0 then markLoop d (Int.tdiv x 10) ((strOfNums [(wrap64 (48 + (Int.tmod x 10))) % 256]) ++ s) else (⟨#[109]⟩ : ByteArray) ++ s
def markOf (n : Int) : ByteArray := if n ≤ 0 then (⟨#[109, 48]⟩ : ByteArray) else markLoop 20 n (⟨#[]⟩ : ByteArray)
theorem strOf1 (c : Int) : (strOfNums [c]).size = 1 := by simp [strOfNums, ByteArray.size]
theorem markLoop_eq (d : Nat) : ∀ (k : Nat) (x : Int) (s : ByteArray), 0 ≤ x → x < 10 ^ d → x < 9223372036854775807 → s.size + d ≤ 1000 → d < k → laws_markText.l0 k x s = some (markLoop d x s) := by
  induction d with
  | zero =>
    intro k x s h0 h1 _ hs hk
    obtain ⟨k, rfl⟩ : ∃ m, k = m + 1 := ⟨k - 1, by omega⟩
    simp only [laws_markText.l0, markLoop]
    rw [if_neg (by omega), if_pos (by omega)]
  | succ d ih =>
    intro k x s h0 h1 h2 hs hk
    obtain ⟨k, rfl⟩ : ∃ m, k = m + 1 := ⟨k - 1, by omega⟩
    simp only [laws_markText.l0, markLoop]
    by_cases hx : x > 0
    · rw [if_pos hx, if_pos hx]
      simp only [Option.bind_some]
      have e : Int.tdiv x 10 = x / 10 := Int.tdiv_eq_ediv_of_nonneg h0
      have h10 : (10 : Int) ^ (d + 1) = 10 ^ d * 10 := Int.pow_succ 10 d
      rw [if_pos (by rw [strOf1]; omega), w64 (x := Int.tdiv x 10) (by omega) (by omega)]
      refine ih k _ _ (by omega) (by rw [e]; omega) (by omega) ?_ (by omega)
      rw [ByteArray.size_append, strOf1]
      omega
    · rw [if_neg hx, if_neg hx, if_pos (by omega)]
theorem markText_eq (n : Int) (hn : n ≤ 4611686018427387904) (k : Nat) (hk : 21 < k) : laws_markText.f k n = some (markOf n) := by
  unfold laws_markText.f markOf
  by_cases h : n ≤ 0
  · rw [if_pos h, if_pos h]
  · rw [if_neg h, if_neg h]
    exact markLoop_eq 20 k n _ (by omega) (by omega) (by omega) (by decide) (by omega)

/-! ### MarkL -/
def mkLab (b : S90) (x : Int) : S90 := ⟨markOf x, markOf (x + 1)⟩
theorem laws_markLabelS_eq (l : List S90) (hl : l.length ≤ 140737488351232) (x : Int) (h0 : 0 ≤ x) (hx : x + 2 * l.length ≤ 4611686018427387902) (k : Nat) (hk : 22 + l.length < k) :
    laws_markLabelS.f k l x = some (x + 2 * l.length, markAll mkLab (fun _ => 2) l x) := by
  have ht : total (fun _ : S90 => 2) l = 2 * l.length := total_const 2 l
  have h := mark_loop mkLab (fun _ => 2) 22 4611686018427387902 (fun _ => True) (fun k l x i => laws_markLabelS.l0 k l x i) ?_ ?_ l [] k x h0 (by rw [ht]; omega) hl (fun _ _ => trivial) (by omega)
  · rw [ht] at h
    simpa [laws_markLabelS.f] using h
  · intro k pre b rest x hk h0 hB hn _
    simp only [laws_markLabelS.l0]
    have hlen : (pre ++ b :: rest).length = pre.length + rest.length + 1 := by simp; omega
    rw [if_pos (by rw [hlen]; omega), markText_eq x (by omega) k (by omega)]
    simp only [Option.bind_some]
    rw [if_pos (by omega), w64 (x := x + 1) (by omega) (by omega), markText_eq (x + 1) (by omega) k (by omega)]
    simp only [Option.bind_some, Int.toNat_natCast, set_pre, List.set_set]
    rw [w64 (x := x + 1 + 1) (by omega) (by omega), w64 (x := (pre.length : Int) + 1) (by omega) (by omega)]
    have hr : (rd_T90 (pre ++ ⟨markOf x, (rd_T90 (pre ++ b :: rest) pre.length).f1⟩ :: rest) pre.length).f0 = markOf x := by
      unfold rd_T90
      simp only [Int.toNat_natCast, getD_pre]
    rw [hr]
    have e : x + 1 + 1 = x + ((2 : Nat) : Int) := by omega
    rw [e]
    rfl
  · intro k l x _
    simp only [laws_markLabelS.l0]
    rw [if_neg (by omega)]
theorem laws_heldLabelS_eq (l : List S90) (hl : l.length ≤ 140737488351232) (x : Int) (h0 : 0 ≤ x) (hx : x + 2 * l.length ≤ 4611686018427387902) (k : Nat) (hk : 22 + l.length < k) :
    laws_heldLabelS.f k (markAll mkLab (fun _ => 2) l x) x = some (x + 2 * l.length) := by
  have ht : total (fun _ : S90 => 2) l = 2 * l.length := total_const 2 l
  have h := held_loop mkLab (fun _ => 2) 22 4611686018427387902 (fun _ => True) (fun k l x i => laws_heldLabelS.l0 k l x i) ?_ ?_ l [] k x h0 (by rw [ht]; omega) hl (fun _ _ => trivial) (by omega)
  · rw [ht] at h
    simpa [laws_heldLabelS.f] using h
  · intro k pre b rest x hk h0 hB hn _
    have hlen : (pre ++ mkLab b x :: rest).length = pre.length + rest.length + 1 := by simp; omega
    have hr : rd_T90 (pre ++ mkLab b x :: rest) pre.length = mkLab b x := by
      unfold rd_T90
      simp only [Int.toNat_natCast, getD_pre]
    simp only [laws_heldLabelS.l0]
    rw [if_pos (by rw [hlen]; omega), if_pos (by omega), markText_eq x (by omega) k (by omega), hr]
    simp only [Option.bind_some, mkLab, if_true]
    rw [w64 (x := x + 1) (by omega) (by omega), markText_eq (x + 1) (by omega) k (by omega)]
    simp only [Option.bind_some, if_true]
    rw [w64 (x := x + 1 + 1) (by omega) (by omega), w64 (x := (pre.length : Int) + 1) (by omega) (by omega)]
    have e : x + 1 + 1 = x + ((2 : Nat) : Int) := by omega
    rw [e]
    rfl
  · intro k l x _
    simp only [laws_heldLabelS.l0]
    rw [if_neg (by omega)]

/-! ### MarkA -/
theorem laws_markAlarm_eq (l : List S90) (s e : Int) (n : ByteArray) (hl : l.length ≤ 140737488351232) (x : Int) (h0 : 0 ≤ x) (hx : x + 2 * l.length ≤ 4611686018427387902) (k : Nat) (hk : 22 + l.length < k) :
    laws_markAlarm.f k l s e n x = some (x + 2 * (l.length : Int), markAll mkLab (fun _ => 2) l x) := by
  unfold laws_markAlarm.f
  rw [laws_markLabelS_eq l hl x h0 hx k hk]; rfl
theorem laws_heldAlarm_eq (l : List S90) (s e : Int) (n : ByteArray) (hl : l.length ≤ 140737488351232) (x : Int) (h0 : 0 ≤ x) (hx : x + 2 * l.length ≤ 4611686018427387902) (k : Nat) (hk : 22 + l.length < k) :
    laws_heldAlarm.f k (markAll mkLab (fun _ => 2) l x) s e n x = some (x + 2 * (l.length : Int)) := by
  unfold laws_heldAlarm.f
  rw [laws_heldLabelS_eq l hl x h0 hx k hk]
  simp only [Option.bind_some]
  rw [if_neg (by omega)]

theorem FnExactMerge (aL : List S88) (aS aE : Int) (aN : ByteArray) (bL : List S88) (bS bE : Int) (bN : ByteArray) (ha : (aL.length ≤ 9223372036854775807 ∧ ∀ b ∈ aL, b.f0.size ≤ 9223372036854775807 ∧ b.f1.size ≤ 9223372036854775807) ∧ (Lit.int .i64 aS).wf = true ∧ (Lit.int .i64 aE).wf = true ∧ aN.size ≤ 9223372036854775807) (hb : (bL.length ≤ 9223372036854775807 ∧ ∀ b ∈ bL, b.f0.size ≤ 9223372036854775807 ∧ b.f1.size ≤ 9223372036854775807) ∧ (Lit.int .i64 bS).wf = true ∧ (Lit.int .i64 bE).wf = true ∧ bN.size ≤ 9223372036854775807) : ∃ k, laws_FnExactMerge.f k aL aS aE aN bL bS bE bN = some true := by
  obtain ⟨m, hm⟩ : ∃ m : Nat, 16777216 < m := ⟨16777217, by omega⟩
  have hm1 : 16777216 < m + 1 := by omega
  have hm2 : 16777216 < m + 2 := by omega
  have hm11 : 16777216 < m + 1 + 1 := by omega
  refine ⟨m + 2, ?_⟩
  unfold laws_FnExactMerge.f
  obtain ⟨left1, hleft1⟩ : ∃ x, x = left' ((szL aL + aN.size)) 1048576 := ⟨_, rfl⟩
  rw [laws_szAlarm_eq aL aS aE aN ha.1 ha.2.2.2 _ (by omega) (by omega) _ (by omega), ← hleft1]
  simp only [Option.bind_some]
  by_cases hz1 : left1 < 0
  · rw [if_pos hz1]
  rw [if_neg hz1]
  have hb1 : (((szL aL + aN.size) : Nat) : Int) ≤ 1048576 := left_ge (by omega) (by rw [← hleft1]; exact hz1)
  have hc1 : left1 ≤ 1048576 := by rw [hleft1]; exact left_le (by omega)
  obtain ⟨left2, hleft2⟩ : ∃ x, x = left' ((szL bL + bN.size)) left1 := ⟨_, rfl⟩
  rw [laws_szAlarm_eq bL bS bE bN hb.1 hb.2.2.2 _ (by omega) (by omega) _ (by omega), ← hleft2]
  simp only [Option.bind_some]
  by_cases hz2 : left2 < 0
  · rw [if_pos hz2]
  rw [if_neg hz2]
  have hb2 : (((szL bL + bN.size) : Nat) : Int) ≤ left1 := left_ge (by omega) (by rw [← hleft2]; exact hz2)
  have hc2 : left2 ≤ 1048576 := by rw [hleft2]; exact left_le (by omega)
  clear hleft1
  clear hleft2
  have la : aL.length ≤ 1048576 := by have := len_le_szL aL; omega
  have qa : (labsOf aL).length ≤ 1048576 := by rw [labsOf_length]; exact la
  have za := sized_labs aL (by omega)
  have na : aN.size ≤ 1048576 := by omega
  have ta : ∀ k, 16777216 < k → laws_toAlarm.f k aL aS aE aN = some (labsOf aL, aS, aE, aN) := fun k hk => laws_toAlarm_eq aL aS aE aN la k (by omega)
  have ea : ∀ k, 16777216 < k → laws_eqAlarm.f k (labsOf aL) aS aE aN (labsOf aL) aS aE aN = some true := fun k hk => laws_eqAlarm_refl _ _ _ _ (by omega) k (by omega)
  have lb : bL.length ≤ 1048576 := by have := len_le_szL bL; omega
  have qb : (labsOf bL).length ≤ 1048576 := by rw [labsOf_length]; exact lb
  have zb := sized_labs bL (by omega)
  have nb : bN.size ≤ 1048576 := by omega
  have tb : ∀ k, 16777216 < k → laws_toAlarm.f k bL bS bE bN = some (labsOf bL, bS, bE, bN) := fun k hk => laws_toAlarm_eq bL bS bE bN lb k (by omega)
  have eb : ∀ k, 16777216 < k → laws_eqAlarm.f k (labsOf bL) bS bE bN (labsOf bL) bS bE bN = some true := fun k hk => laws_eqAlarm_refl _ _ _ _ (by omega) k (by omega)
  have sF := spec_Merge_eq (labsOf aL) aS aE aN (labsOf bL) bS bE bN (by omega)
  have iF := impl_Merge_eq (labsOf aL) aS aE aN (labsOf bL) bS bE bN (by omega)
  have eF : ∀ k, 16777216 < k → laws_eqAlarm.f k (labsOf bL) (mergeStart aS aE bS bE) bE bN (labsOf bL) (mergeStart aS aE bS bE) bE bN = some true := fun k hk => laws_eqAlarm_refl _ _ _ _ (by omega) k (by omega)
  have m1 : ∀ k, 16777216 < k → laws_markAlarm.f k (labsOf aL) aS aE aN (1) = some (1 + 2 * ((labsOf aL).length : Int), markAll mkLab (fun _ => 2) (labsOf aL) (1)) := fun k hk => laws_markAlarm_eq _ _ _ _ (by omega) _ (by omega) (by omega) k (by omega)
  have m2 : ∀ k, 16777216 < k → laws_markAlarm.f k (labsOf bL) bS bE bN (1 + 2 * ((labsOf aL).length : Int)) = some (1 + 2 * ((labsOf aL).length : Int) + 2 * ((labsOf bL).length : Int), markAll mkLab (fun _ => 2) (labsOf bL) (1 + 2 * ((labsOf aL).length : Int))) := fun k hk => laws_markAlarm_eq _ _ _ _ (by omega) _ (by omega) (by omega) k (by omega)
  have n1 : ((1 + 2 * ((labsOf aL).length : Int) + 2 * ((labsOf bL).length : Int) : Int) < 0) = False := eq_false (by omega)
  have m3 : ∀ k, 16777216 < k → laws_markAlarm.f k (labsOf bL) (mergeStart aS aE bS bE) bE bN (1) = some (1 + 2 * ((labsOf bL).length : Int), markAll mkLab (fun _ => 2) (labsOf bL) (1)) := fun k hk => laws_markAlarm_eq _ _ _ _ (by omega) _ (by omega) (by omega) k (by omega)
  have d3 : ∀ k, 16777216 < k → laws_heldAlarm.f k (markAll mkLab (fun _ => 2) (labsOf bL) (1)) (mergeStart aS aE bS bE) bE bN (1) = some (1 + 2 * ((labsOf bL).length : Int)) := fun k hk => laws_heldAlarm_eq _ _ _ _ (by omega) _ (by omega) (by omega) k (by omega)
  have n2 : ((1 + 2 * ((labsOf bL).length : Int) : Int) < 0) = False := eq_false (by omega)
  simp only [sF, iF, eF, m1, m2, n1, m3, d3, n2, ta, tb, ea, eb, hm, hm1, hm2, hm11, Option.bind_some, bne_self_eq_false, beq_self_eq_true, if_true, Bool.false_eq_true, if_false, Bool.not_true, Bool.not_false, laws_FnExactMerge.j0]

end Go.Proofs.Ytglefglknlcojab.Pure
