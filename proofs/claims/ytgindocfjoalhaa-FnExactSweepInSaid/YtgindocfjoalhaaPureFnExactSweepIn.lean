/- The program's SweepIn returns what the reference's SweepIn returns, for all arguments, leaves them alone, and its memory is its own; no conditions. -/
import Derived.Test.YtgindocfjoalhaaPFnExactSweepInx9
import Derived.Test.YtgindocfjoalhaaM0
import Derived.Test.YtgindocfjoalhaaM1
import Derived.Test.YtgindocfjoalhaaM2
import Derived.Test.YtgindocfjoalhaaM3
import Derived.Test.YtgindocfjoalhaaM4
import Derived.Test.YtgindocfjoalhaaM5
set_option linter.unusedVariables false
set_option linter.unusedSimpArgs false
namespace Go.Proofs.Ytgindocfjoalhaa.Pure
open Go.RowKit Go.Proofs.Ytgindocfjoalhaa.PFnExactSweepIn Go.Proofs.YtgindocfjoalhaaW.PrintWords Go.Proofs.YtgindocfjoalhaaW.PrintLast Go.Proofs.Ytgindocfjoalhaa.M0 Go.Proofs.Ytgindocfjoalhaa.M1 Go.Proofs.Ytgindocfjoalhaa.M2 Go.Proofs.Ytgindocfjoalhaa.M3 Go.Proofs.Ytgindocfjoalhaa.M4 Go.Proofs.Ytgindocfjoalhaa.M5

/-! ### LabS -/
def labOf (x : S113) : S89 := ⟨x.f0, x.f1⟩
def labsOf (l : List S113) : List S89 := l.map labOf
def szLab (x : S113) : Nat := x.f0.size + x.f1.size
def szL (l : List S113) : Nat := l.length + (l.map szLab).sum
/-- Sizes that Go knows. -/
def WfL (l : List S113) : Prop := l.length ≤ 9223372036854775807 ∧ ∀ x ∈ l, x.f0.size ≤ 9223372036854775807 ∧ x.f1.size ≤ 9223372036854775807
theorem labsOf_length (l : List S113) : (labsOf l).length = l.length := by simp [labsOf]
theorem len_le_szL (l : List S113) : l.length ≤ szL l := by unfold szL; omega
theorem sum_mem {α : Type} (f : α → Nat) : ∀ (l : List α) (x : α), x ∈ l → f x ≤ (l.map f).sum
  | [], x, h => by simp at h
  | a :: l, x, h => by
    rcases List.mem_cons.1 h with rfl | h
    · simp
    · have := sum_mem f l x h
      simp only [List.map_cons, List.sum_cons]
      omega
theorem laws_szLabel_eq (a b : ByteArray) (ha : a.size ≤ 9223372036854775807) (hb : b.size ≤ 9223372036854775807) (left : Int) (h0 : 0 ≤ left) (h1 : left ≤ 1048576) : laws_szLabel.f a b left = some (left' (a.size + b.size) left) := by
  unfold laws_szLabel.f
  rw [← left_add _ _ _ h0, left_of_wrap ha h0 h1 (fun t => if (wrap64 (t - (b.size : Int))) < 0 then (some (-1)) else (some (wrap64 (t - (b.size : Int)))))]
  by_cases hz : left' a.size left < 0
  · rw [if_pos hz, if_pos hz]
  · rw [if_neg hz, if_neg hz]
    have hle := left_ge h0 hz
    have e : left' a.size left = left - a.size := by unfold left'; rw [if_pos hle]
    rw [left_of_wrap hb (by omega) (by omega) (fun t => some t)]
    by_cases hy : left' b.size (left' a.size left) < 0
    · rw [if_pos hy]
      rw [left_neg_one (by omega) hy]
    · rw [if_neg hy]
theorem rdML_mem (l : List S113) (i : Int) (h0 : 0 ≤ i) (h1 : i < (l.length : Int)) : rd_T113 l i ∈ l := by
  unfold rd_T113
  rw [List.getD_eq_getElem?_getD, List.getElem?_eq_getElem (by omega)]
  exact List.getElem_mem (by omega)
theorem laws_szLabelS_eq (l : List S113) (hl : WfL l) (left : Int) (h0 : 0 ≤ left) (h1 : left ≤ 1048576) (k : Nat) (hk : 1048577 < k) :
    laws_szLabelS.f k l left = some (left' (szL l) left) := by
  unfold laws_szLabelS.f szL
  rw [left_of_wrap (n := l.length) hl.1 h0 h1 (fun t => laws_szLabelS.l0 k l t 0), ← left_add _ _ _ h0]
  by_cases hz : left' l.length left < 0
  · rw [if_pos hz, if_pos hz]
  · rw [if_neg hz, if_neg hz]
    have hle := left_ge h0 hz
    rw [budget_loop l (by omega) szLab z113 0 (fun k t i => laws_szLabelS.l0 k l t i) ?_ ?_ l.length k 0 _ (by omega) (by omega) (by omega) (left_le h1) (by omega)]
    · simp
    · intro k i left _ hi hi' hl0 hl1
      have hm := hl.2 _ (rdML_mem l i hi hi')
      simp only [laws_szLabelS.l0]
      rw [if_pos hi', if_pos hi, laws_szLabel_eq _ _ hm.1 hm.2 _ hl0 hl1]
      rfl
    · intro k left _
      simp only [laws_szLabelS.l0]
      rw [if_neg (by omega)]
theorem laws_toLabelS_eq (l : List S113) (hl : l.length ≤ 1048576) (k : Nat) (hk : 1048577 < k) : laws_toLabelS.f k l = some (labsOf l) := by
  unfold laws_toLabelS.f
  rw [if_pos (by omega), if_pos (by omega)]
  have h := fill_loop l (by omega) labOf z113 0 (fun k out i => laws_toLabelS.l0 k l out i) ?_ ?_ k z89 (by omega)
  · exact h
  · intro k i out _ hi hi' ho
    simp only [laws_toLabelS.l0]
    rw [if_pos hi', if_pos hi]
    simp only [laws_toLabel.f, Option.bind_some]
    rw [if_pos (by omega)]
    rfl
  · intro k out _
    simp only [laws_toLabelS.l0]
    rw [if_neg (by omega)]
theorem sized_labs (l : List S113) (h : szL l ≤ 1048576) : ∀ x ∈ labsOf l, x.f0.size ≤ 1048576 ∧ x.f1.size ≤ 1048576 := by
  intro x hx
  obtain ⟨y, hy, rfl⟩ := List.mem_map.1 hx
  have := sum_mem szLab l y hy
  have h1 : y.f0.size + y.f1.size ≤ (l.map szLab).sum := this
  unfold szL at h
  show y.f0.size ≤ _ ∧ y.f1.size ≤ _
  omega

/-! ### EqL -/
theorem laws_eqLabelS_refl (l : List S89) (hl : l.length ≤ 140737488351232) (k : Nat) (hk : l.length < k) : laws_eqLabelS.f k l l = some true := by
  unfold laws_eqLabelS.f
  rw [if_pos rfl]
  rw [all_loop (n := l.length) (by omega) 0 (fun _ => true) (fun k i => laws_eqLabelS.l0 k l l i) (some true) ?_ ?_ l.length k 0 (by omega) (by omega) (by omega) (by omega)]
  · rw [allFrom_true (fun _ => rfl)]; rfl
  · intro k i _ h0 h1
    simp only [laws_eqLabelS.l0]
    rw [if_pos h1, if_pos h0, if_pos h1]
    simp only [laws_eqLabel.f, Option.bind_some, if_true]
  · intro k _
    simp only [laws_eqLabelS.l0]
    rw [if_neg (by omega)]

/-! ### AlarmS -/
def WfA (l : List S113) (note : ByteArray) : Prop := WfL l ∧ note.size ≤ 9223372036854775807
theorem laws_szAlarm_eq (l : List S113) (s e : Int) (note : ByteArray) (h : WfL l) (hn : note.size ≤ 9223372036854775807) (left : Int) (h0 : 0 ≤ left) (h1 : left ≤ 1048576) (k : Nat) (hk : 1048577 < k) :
    laws_szAlarm.f k l s e note left = some (left' (szL l + note.size) left) := by
  unfold laws_szAlarm.f
  rw [laws_szLabelS_eq l h left h0 h1 k hk, ← left_add _ _ _ h0]
  simp only [Option.bind_some]
  by_cases hz : left' (szL l) left < 0
  · rw [if_pos hz, if_pos hz]
  · rw [if_neg hz, if_neg hz]
    have hle := left_le (t := szL l) h1
    rw [left_of_wrap hn (by omega) hle (fun t => some t)]
    by_cases hy : left' note.size (left' (szL l) left) < 0
    · rw [if_pos hy, left_neg_one (by omega) hy]
    · rw [if_neg hy]
theorem laws_toAlarm_eq (l : List S113) (s e : Int) (note : ByteArray) (hl : l.length ≤ 1048576) (k : Nat) (hk : 1048577 < k) : laws_toAlarm.f k l s e note = some (labsOf l, s, e, note) := by
  unfold laws_toAlarm.f
  rw [laws_toLabelS_eq l hl k hk]
  rfl
theorem laws_eqAlarm_refl (l : List S89) (s e : Int) (note : ByteArray) (hl : l.length ≤ 140737488351232) (k : Nat) (hk : l.length < k) : laws_eqAlarm.f k l s e note l s e note = some true := by
  unfold laws_eqAlarm.f
  rw [laws_eqLabelS_refl l hl k hk]
  simp

/-! ### AlarmsS -/
def WfA1 (x : S62) : Prop := WfL x.f0 ∧ (Lit.int .i64 x.f1).wf = true ∧ (Lit.int .i64 x.f2).wf = true ∧ x.f3.size ≤ 9223372036854775807
def WfAs (l : List S62) : Prop := l.length ≤ 9223372036854775807 ∧ ∀ x ∈ l, WfA1 x
def szA (x : S62) : Nat := szL x.f0 + x.f3.size
def szAs (l : List S62) : Nat := l.length + (l.map szA).sum
def alarmOf (x : S62) : S26 := ⟨labsOf x.f0, x.f1, x.f2, x.f3⟩
def alarmsOf (l : List S62) : List S26 := l.map alarmOf
def OkA (a : S26) : Prop := a.f0.length ≤ 1048576 ∧ (∀ x ∈ a.f0, x.f0.size ≤ 1048576 ∧ x.f1.size ≤ 1048576) ∧ a.f3.size ≤ 1048576
def OkAs (l : List S26) : Prop := l.length ≤ 1048576 ∧ ∀ a ∈ l, OkA a
theorem len_le_szAs (l : List S62) : l.length ≤ szAs l := by unfold szAs; omega
theorem mem_szAs (l : List S62) (x : S62) (hx : x ∈ l) : szA x ≤ szAs l := by
  have := sum_mem szA l x hx
  unfold szAs
  omega
theorem okA_of (x : S62) (h : szA x ≤ 1048576) : OkA (alarmOf x) := by
  unfold szA at h
  have := len_le_szL x.f0
  refine ⟨?_, ?_, ?_⟩
  · show (labsOf x.f0).length ≤ _
    rw [labsOf_length]; omega
  · exact sized_labs x.f0 (by omega)
  · show x.f3.size ≤ _
    omega
theorem okAs_of (l : List S62) (h : szAs l ≤ 1048576) : OkAs (alarmsOf l) := by
  refine ⟨?_, fun a ha => ?_⟩
  · have := len_le_szAs l
    simp [alarmsOf]; omega
  · obtain ⟨x, hx, rfl⟩ := List.mem_map.1 ha
    have := mem_szAs l x hx
    exact okA_of x (by omega)
theorem rdMA_mem (l : List S62) (i : Int) (h0 : 0 ≤ i) (h1 : i < (l.length : Int)) : rd_T62 l i ∈ l := by
  unfold rd_T62
  rw [List.getD_eq_getElem?_getD, List.getElem?_eq_getElem (by omega)]
  exact List.getElem_mem (by omega)
theorem rdA_mem (l : List S26) (i : Int) (h0 : 0 ≤ i) (h1 : i < (l.length : Int)) : rd_T26 l i ∈ l := by
  unfold rd_T26
  rw [List.getD_eq_getElem?_getD, List.getElem?_eq_getElem (by omega)]
  exact List.getElem_mem (by omega)
theorem laws_szAlarmS_eq (l : List S62) (hl : WfAs l) (left : Int) (h0 : 0 ≤ left) (h1 : left ≤ 1048576) (k : Nat) (hk : 2200000 < k) :
    laws_szAlarmS.f k l left = some (left' (szAs l) left) := by
  unfold laws_szAlarmS.f szAs
  rw [left_of_wrap (n := l.length) hl.1 h0 h1 (fun t => laws_szAlarmS.l0 k l t 0), ← left_add _ _ _ h0]
  by_cases hz : left' l.length left < 0
  · rw [if_pos hz, if_pos hz]
  · rw [if_neg hz, if_neg hz]
    have hle := left_ge h0 hz
    rw [budget_loop l (by omega) szA z62 1048578 (fun k t i => laws_szAlarmS.l0 k l t i) ?_ ?_ l.length k 0 _ (by omega) (by omega) (by omega) (left_le h1) (by omega)]
    · simp
    · intro k i left hk hi hi' hl0 hl1
      have hm := hl.2 _ (rdMA_mem l i hi hi')
      simp only [laws_szAlarmS.l0]
      rw [if_pos hi', if_pos hi, laws_szAlarm_eq _ _ _ _ hm.1 hm.2.2.2 _ hl0 hl1 _ (by omega)]
      rfl
    · intro k left _
      simp only [laws_szAlarmS.l0]
      rw [if_neg (by omega)]
theorem laws_toAlarmS_eq (l : List S62) (hs : szAs l ≤ 1048576) (k : Nat) (hk : 2200000 < k) : laws_toAlarmS.f k l = some (alarmsOf l) := by
  have hl := len_le_szAs l
  unfold laws_toAlarmS.f
  rw [if_pos (by omega), if_pos (by omega)]
  have h := fill_loop l (by omega) alarmOf z62 1048578 (fun k out i => laws_toAlarmS.l0 k l out i) ?_ ?_ k z26 (by omega)
  · exact h
  · intro k i out hk hi hi' ho
    have hm := mem_szAs l _ (rdMA_mem l i hi hi')
    have hm2 := len_le_szL (rd_T62 l i).f0
    unfold szA at hm
    simp only [laws_toAlarmS.l0]
    rw [if_pos hi', if_pos hi, laws_toAlarm_eq _ _ _ _ (by omega) _ (by omega)]
    simp only [Option.bind_some]
    rw [if_pos (by omega)]
    rfl
  · intro k out _
    simp only [laws_toAlarmS.l0]
    rw [if_neg (by omega)]
theorem laws_eqAlarmS_refl (l : List S26) (hl : OkAs l) (k : Nat) (hk : 2200000 < k) : laws_eqAlarmS.f k l l = some true := by
  have hl1 := hl.1
  unfold laws_eqAlarmS.f
  rw [if_pos rfl]
  rw [all_loop (n := l.length) (by omega) 1048577 (fun _ => true) (fun k i => laws_eqAlarmS.l0 k l l i) (some true) ?_ ?_ l.length k 0 (by omega) (by omega) (by omega) (by omega)]
  · rw [allFrom_true (fun _ => rfl)]; rfl
  · intro k i hk h0 h1
    have hm := (hl.2 _ (rdA_mem l i h0 h1)).1
    simp only [laws_eqAlarmS.l0]
    rw [if_pos h1, if_pos h0, if_pos h1, laws_eqAlarm_refl _ _ _ _ (by omega) _ (by omega)]
    rfl
  · intro k _
    simp only [laws_eqAlarmS.l0]
    rw [if_neg (by omega)]
theorem laws_szChain_eq (f : Int) (l : List S62) (hl : WfAs l) (left : Int) (h0 : 0 ≤ left) (h1 : left ≤ 1048576) (k : Nat) (hk : 2200000 < k) :
    laws_szChain.f k f l left = some (left' (szAs l) left) := by
  unfold laws_szChain.f
  rw [laws_szAlarmS_eq l hl left h0 h1 k hk]
  simp only [Option.bind_some]
  by_cases hz : left' (szAs l) left < 0
  · rw [if_pos hz, left_neg_one h0 hz]
  · rw [if_neg hz]
theorem laws_toChain_eq (f : Int) (l : List S62) (hs : szAs l ≤ 1048576) (k : Nat) (hk : 2200000 < k) : laws_toChain.f k f l = some (f, alarmsOf l) := by
  unfold laws_toChain.f
  rw [laws_toAlarmS_eq l hs k hk]; rfl
theorem laws_eqChain_refl (f : Int) (l : List S26) (hl : OkAs l) (k : Nat) (hk : 2200000 < k) : laws_eqChain.f k f l f l = some true := by
  unfold laws_eqChain.f
  rw [laws_eqAlarmS_refl l hl k hk]
  simp

/-! ### ChainsS -/
def WfC1 (x : S35) : Prop := (Lit.int .i64 x.f0).wf = true ∧ WfAs x.f1
def WfCs (l : List S35) : Prop := l.length ≤ 9223372036854775807 ∧ ∀ x ∈ l, WfC1 x
def szC (x : S35) : Nat := szAs x.f1
def szCs (l : List S35) : Nat := l.length + (l.map szC).sum
def chainOf (x : S35) : S39 := ⟨x.f0, alarmsOf x.f1⟩
def chainsOf (l : List S35) : List S39 := l.map chainOf
def OkCs (l : List S39) : Prop := l.length ≤ 1048576 ∧ ∀ a ∈ l, OkAs a.f1
theorem len_le_szCs (l : List S35) : l.length ≤ szCs l := by unfold szCs; omega
theorem mem_szCs (l : List S35) (x : S35) (hx : x ∈ l) : szC x ≤ szCs l := by
  have := sum_mem szC l x hx
  unfold szCs
  omega
theorem okCs_of (l : List S35) (h : szCs l ≤ 1048576) : OkCs (chainsOf l) := by
  refine ⟨?_, fun a ha => ?_⟩
  · have := len_le_szCs l
    simp [chainsOf]; omega
  · obtain ⟨x, hx, rfl⟩ := List.mem_map.1 ha
    have := mem_szCs l x hx
    exact okAs_of x.f1 (by unfold szC at this; omega)
theorem rdMC_mem (l : List S35) (i : Int) (h0 : 0 ≤ i) (h1 : i < (l.length : Int)) : rd_T35 l i ∈ l := by
  unfold rd_T35
  rw [List.getD_eq_getElem?_getD, List.getElem?_eq_getElem (by omega)]
  exact List.getElem_mem (by omega)
theorem rdC_mem (l : List S39) (i : Int) (h0 : 0 ≤ i) (h1 : i < (l.length : Int)) : rd_T39 l i ∈ l := by
  unfold rd_T39
  rw [List.getD_eq_getElem?_getD, List.getElem?_eq_getElem (by omega)]
  exact List.getElem_mem (by omega)
theorem laws_szChainS_eq (l : List S35) (hl : WfCs l) (left : Int) (h0 : 0 ≤ left) (h1 : left ≤ 1048576) (k : Nat) (hk : 3300000 < k) :
    laws_szChainS.f k l left = some (left' (szCs l) left) := by
  unfold laws_szChainS.f szCs
  rw [left_of_wrap (n := l.length) hl.1 h0 h1 (fun t => laws_szChainS.l0 k l t 0), ← left_add _ _ _ h0]
  by_cases hz : left' l.length left < 0
  · rw [if_pos hz, if_pos hz]
  · rw [if_neg hz, if_neg hz]
    have hle := left_ge h0 hz
    rw [budget_loop l (by omega) szC z35 2200001 (fun k t i => laws_szChainS.l0 k l t i) ?_ ?_ l.length k 0 _ (by omega) (by omega) (by omega) (left_le h1) (by omega)]
    · simp
    · intro k i left hk hi hi' hl0 hl1
      have hm := hl.2 _ (rdMC_mem l i hi hi')
      simp only [laws_szChainS.l0]
      rw [if_pos hi', if_pos hi, laws_szChain_eq _ _ hm.2 _ hl0 hl1 _ (by omega)]
      rfl
    · intro k left _
      simp only [laws_szChainS.l0]
      rw [if_neg (by omega)]
theorem laws_toChainS_eq (l : List S35) (hs : szCs l ≤ 1048576) (k : Nat) (hk : 3300000 < k) : laws_toChainS.f k l = some (chainsOf l) := by
  have hl := len_le_szCs l
  unfold laws_toChainS.f
  rw [if_pos (by omega), if_pos (by omega)]
  have h := fill_loop l (by omega) chainOf z35 2200001 (fun k out i => laws_toChainS.l0 k l out i) ?_ ?_ k z39 (by omega)
  · exact h
  · intro k i out hk hi hi' ho
    have hm := mem_szCs l _ (rdMC_mem l i hi hi')
    unfold szC at hm
    simp only [laws_toChainS.l0]
    rw [if_pos hi', if_pos hi, laws_toChain_eq _ _ (by omega) _ (by omega)]
    simp only [Option.bind_some]
    rw [if_pos (by omega)]
    rfl
  · intro k out _
    simp only [laws_toChainS.l0]
    rw [if_neg (by omega)]
theorem laws_eqChainS_refl (l : List S39) (hl : OkCs l) (k : Nat) (hk : 3300000 < k) : laws_eqChainS.f k l l = some true := by
  have hl1 := hl.1
  unfold laws_eqChainS.f
  rw [if_pos rfl]
  rw [all_loop (n := l.length) (by omega) 2200001 (fun _ => true) (fun k i => laws_eqChainS.l0 k l l i) (some true) ?_ ?_ l.length k 0 (by omega) (by omega) (by omega) (by omega)]
  · rw [allFrom_true (fun _ => rfl)]; rfl
  · intro k i hk h0 h1
    have hm := hl.2 _ (rdC_mem l i h0 h1)
    simp only [laws_eqChainS.l0]
    rw [if_pos h1, if_pos h0, if_pos h1, laws_eqChain_refl _ _ hm _ (by omega)]
    rfl
  · intro k _
    simp only [laws_eqChainS.l0]
    rw [if_neg (by omega)]
theorem laws_szPart_eq (f g : Int) (l : List S35) (hl : WfCs l) (left : Int) (h0 : 0 ≤ left) (h1 : left ≤ 1048576) (k : Nat) (hk : 3300000 < k) :
    laws_szPart.f k f g l left = some (left' (szCs l) left) := by
  unfold laws_szPart.f
  rw [laws_szChainS_eq l hl left h0 h1 k hk]
  simp only [Option.bind_some]
  by_cases hz : left' (szCs l) left < 0
  · rw [if_pos hz, left_neg_one h0 hz]
  · rw [if_neg hz]
theorem laws_toPart_eq (f g : Int) (l : List S35) (hs : szCs l ≤ 1048576) (k : Nat) (hk : 3300000 < k) : laws_toPart.f k f g l = some (f, g, chainsOf l) := by
  unfold laws_toPart.f
  rw [laws_toChainS_eq l hs k hk]; rfl
theorem laws_eqPart_refl (f g : Int) (l : List S39) (hl : OkCs l) (k : Nat) (hk : 3300000 < k) : laws_eqPart.f k f g l f g l = some true := by
  unfold laws_eqPart.f
  rw [laws_eqChainS_refl l hl k hk]
  simp

/-! ### SameSet -/
def labEq (x y : S89) : Bool := (x.f0.toList == y.f0.toList) && (x.f1.toList == y.f1.toList)
def sameB (a b : List S89) (i : Int) : Bool := labEq (rd_T89 a i) (rd_T89 b i)
def sameSet (a b : List S89) : Bool := decide (a.length = b.length) && allFrom (sameB a b) a.length 0
theorem same_round (a b : List S89) (i : Int) (x : Option Bool) :
    (if (!((((rd_T89 a i).f0).toList) == (((rd_T89 b i).f0).toList)) || (!((((rd_T89 a i).f1).toList) == (((rd_T89 b i).f1).toList)))) = true then (some false) else x) = if sameB a b i = true then x else some false := by
  unfold sameB labEq
  cases ((rd_T89 a i).f0.toList == (rd_T89 b i).f0.toList) <;> cases ((rd_T89 a i).f1.toList == (rd_T89 b i).f1.toList) <;> simp

/-! ### InChain -/
def atFrom (s : List S89) : List S26 → Int → Int
  | [], _ => -1
  | a :: l, i => if sameSet a.f0 s = true then i else atFrom s l (i + 1)
def labelsAt (l : List S26) (s : List S89) : Int := atFrom s l 0

/-! ### CopyA -/
theorem impl_copySet_eq (l : List S89) (hl : l.length ≤ 1099511627776) : impl_copySet.f l = some l := by
  unfold impl_copySet.f
  rw [if_pos (by omega)]
theorem impl_copyAlarm_eq (l : List S89) (s e : Int) (n : ByteArray) (hl : l.length ≤ 1099511627776) : impl_copyAlarm.f l s e n = some (l, s, e, n) := by
  unfold impl_copyAlarm.f
  rw [impl_copySet_eq l hl]; rfl
theorem spec_l4Copy_eq (l : List S89) (s e : Int) (n : ByteArray) (hl : l.length ≤ 1099511627776) : spec_l4Copy.f l s e n = some (l, s, e, n) := by
  unfold spec_l4Copy.f
  simp only [Option.bind_some, List.length_nil, List.nil_append]
  rw [if_pos (by omega)]

/-! ### Touch -/
def touch (s e s' e' : Int) : Bool := decide (s ≤ e') && decide (s' ≤ e)

/-! ### Least -/

/-! ### Merge -/
def mergeStart (s e s' e' : Int) : Int := if touch s e s' e' = true then mn s s' else s'

/-! ### PutChain -/
theorem copy_flat {α : Type} (l : List α) : l.flatMap (fun a => [a]) = l := by
  induction l with
  | nil => rfl
  | cons a l ih => rw [List.flatMap_cons, ih]; rfl
theorem atFrom_lt (s : List S89) : ∀ (l : List S26) (i : Int), 0 ≤ i → atFrom s l i < 0 ∨ (i ≤ atFrom s l i ∧ atFrom s l i < i + (l.length : Int))
  | [], i, _ => Or.inl (by unfold atFrom; omega)
  | a :: l, i, h0 => by
    unfold atFrom
    have h := atFrom_lt s l (i + 1) (by omega)
    rw [List.length_cons]
    split
    · right; omega
    · rcases h with h | h
      · exact Or.inl h
      · right; omega
def merged (b : S26) (al : List S89) (s e : Int) (n : ByteArray) : S26 := ⟨al, mergeStart b.f1 b.f2 s e, e, n⟩
def putChain (f : Int) (l : List S26) (al : List S89) (s e : Int) (n : ByteArray) : Int × List S26 × Bool :=
  if labelsAt l al < 0 then (f, l ++ [⟨al, s, e, n⟩], true) else (f, l.set (labelsAt l al).toNat (merged (rd_T26 l (labelsAt l al)) al s e n), false)
theorem putChain_ok (f : Int) (l : List S26) (hl : OkAs l) (al : List S89) (ha : al.length ≤ 1048576) (s e : Int) (n : ByteArray) : (putChain f l al s e n).2.1.length ≤ l.length + 1 ∧ ∀ b ∈ (putChain f l al s e n).2.1, b.f0.length ≤ 1048576 := by
  unfold putChain
  split
  · refine ⟨by simp, fun b hb => ?_⟩
    rcases List.mem_append.1 hb with hb | hb
    · exact (hl.2 b hb).1
    · rw [List.mem_singleton.1 hb]; exact ha
  · refine ⟨by simp, fun b hb => ?_⟩
    rcases List.mem_or_eq_of_mem_set hb with hb | hb
    · exact (hl.2 b hb).1
    · rw [hb]; exact ha

/-! ### MarkText -/
def markLoop : Nat → Int → ByteArray → ByteArray
  | 0, _, s => (⟨#[109]⟩ : ByteArray) ++ s
  | d + 1, x, s => if x > 0 then markLoop d (Int.tdiv x 10) ((strOfNums [(wrap64 (48 + (Int.tmod x 10))) % 256]) ++ s) else (⟨#[109]⟩ : ByteArray) ++ s
def markOf (n : Int) : ByteArray := if n ≤ 0 then (⟨#[109, 48]⟩ : ByteArray) else markLoop 20 n (⟨#[]⟩ : ByteArray)
theorem strOf1 (c : Int) : (strOfNums [c]).size = 1 := by simp [strOfNums, ByteArray.size]
theorem markLoop_eq (d : Nat) : ∀ (k : Nat) (x : Int) (s : ByteArray), 0 ≤ x → x < 10 ^ d → x < 9223372036854775807 → s.size + d ≤ 1000 → d < k → laws_markText.l0 k x s = some (markLoop d x s) := by
  induction d with
  | zero =>
    intro k x s h0 h1 _ hs hk
    obtain ⟨k, rfl⟩ : ∃ m, k = m + 1 := ⟨k - 1, by omega⟩
    simp only [laws_markText.l0, markLoop]
    rw [if_neg (by omega), if_pos (by omega)]
  | succ d ih =>
    intro k x s h0 h1 h2 hs hk
    obtain ⟨k, rfl⟩ : ∃ m, k = m + 1 := ⟨k - 1, by omega⟩
    simp only [laws_markText.l0, markLoop]
    by_cases hx : x > 0
    · rw [if_pos hx, if_pos hx]
      simp only [Option.bind_some]
      have e : Int.tdiv x 10 = x / 10 := Int.tdiv_eq_ediv_of_nonneg h0
      have h10 : (10 : Int) ^ (d + 1) = 10 ^ d * 10 := Int.pow_succ 10 d
      rw [if_pos (by rw [strOf1]; omega), w64 (x := Int.tdiv x 10) (by omega) (by omega)]
      refine ih k _ _ (by omega) (by rw [e]; omega) (by omega) ?_ (by omega)
      rw [ByteArray.size_append, strOf1]
      omega
    · rw [if_neg hx, if_neg hx, if_pos (by omega)]
theorem markText_eq (n : Int) (hn : n ≤ 4611686018427387904) (k : Nat) (hk : 21 < k) : laws_markText.f k n = some (markOf n) := by
  unfold laws_markText.f markOf
  by_cases h : n ≤ 0
  · rw [if_pos h, if_pos h]
  · rw [if_neg h, if_neg h]
    exact markLoop_eq 20 k n _ (by omega) (by omega) (by omega) (by decide) (by omega)

/-! ### MarkL -/
def mkLab (b : S89) (x : Int) : S89 := ⟨markOf x, markOf (x + 1)⟩
theorem laws_markLabelS_eq (l : List S89) (hl : l.length ≤ 140737488351232) (x : Int) (h0 : 0 ≤ x) (hx : x + 2 * l.length ≤ 4611686018427387902) (k : Nat) (hk : 22 + l.length < k) :
    laws_markLabelS.f k l x = some (x + 2 * l.length, markAll mkLab (fun _ => 2) l x) := by
  have ht : total (fun _ : S89 => 2) l = 2 * l.length := total_const 2 l
  have h := mark_loop mkLab (fun _ => 2) 22 4611686018427387902 (fun _ => True) (fun k l x i => laws_markLabelS.l0 k l x i) ?_ ?_ l [] k x h0 (by rw [ht]; omega) hl (fun _ _ => trivial) (by omega)
  · rw [ht] at h
    simpa [laws_markLabelS.f] using h
  · intro k pre b rest x hk h0 hB hn _
    simp only [laws_markLabelS.l0]
    have hlen : (pre ++ b :: rest).length = pre.length + rest.length + 1 := by simp; omega
    rw [if_pos (by rw [hlen]; omega), markText_eq x (by omega) k (by omega)]
    simp only [Option.bind_some]
    rw [if_pos (by omega), w64 (x := x + 1) (by omega) (by omega), markText_eq (x + 1) (by omega) k (by omega)]
    simp only [Option.bind_some, Int.toNat_natCast, set_pre, List.set_set]
    rw [w64 (x := x + 1 + 1) (by omega) (by omega), w64 (x := (pre.length : Int) + 1) (by omega) (by omega)]
    have hr : (rd_T89 (pre ++ ⟨markOf x, (rd_T89 (pre ++ b :: rest) pre.length).f1⟩ :: rest) pre.length).f0 = markOf x := by
      unfold rd_T89
      simp only [Int.toNat_natCast, getD_pre]
    rw [hr]
    have e : x + 1 + 1 = x + ((2 : Nat) : Int) := by omega
    rw [e]
    rfl
  · intro k l x _
    simp only [laws_markLabelS.l0]
    rw [if_neg (by omega)]
theorem laws_heldLabelS_eq (l : List S89) (hl : l.length ≤ 140737488351232) (x : Int) (h0 : 0 ≤ x) (hx : x + 2 * l.length ≤ 4611686018427387902) (k : Nat) (hk : 22 + l.length < k) :
    laws_heldLabelS.f k (markAll mkLab (fun _ => 2) l x) x = some (x + 2 * l.length) := by
  have ht : total (fun _ : S89 => 2) l = 2 * l.length := total_const 2 l
  have h := held_loop mkLab (fun _ => 2) 22 4611686018427387902 (fun _ => True) (fun k l x i => laws_heldLabelS.l0 k l x i) ?_ ?_ l [] k x h0 (by rw [ht]; omega) hl (fun _ _ => trivial) (by omega)
  · rw [ht] at h
    simpa [laws_heldLabelS.f] using h
  · intro k pre b rest x hk h0 hB hn _
    have hlen : (pre ++ mkLab b x :: rest).length = pre.length + rest.length + 1 := by simp; omega
    have hr : rd_T89 (pre ++ mkLab b x :: rest) pre.length = mkLab b x := by
      unfold rd_T89
      simp only [Int.toNat_natCast, getD_pre]
    simp only [laws_heldLabelS.l0]
    rw [if_pos (by rw [hlen]; omega), if_pos (by omega), markText_eq x (by omega) k (by omega), hr]
    simp only [Option.bind_some, mkLab, if_true]
    rw [w64 (x := x + 1) (by omega) (by omega), markText_eq (x + 1) (by omega) k (by omega)]
    simp only [Option.bind_some, if_true]
    rw [w64 (x := x + 1 + 1) (by omega) (by omega), w64 (x := (pre.length : Int) + 1) (by omega) (by omega)]
    have e : x + 1 + 1 = x + ((2 : Nat) : Int) := by omega
    rw [e]
    rfl
  · intro k l x _
    simp only [laws_heldLabelS.l0]
    rw [if_neg (by omega)]

/-! ### MarkA -/

/-! ### MarkAs -/
def szMA (b : S26) : Nat := 2 * b.f0.length + 3
def mkAl (b : S26) (x : Int) : S26 := ⟨markAll mkLab (fun _ => 2) b.f0 x, x + 2 * (b.f0.length : Int), x + 2 * (b.f0.length : Int) + 1, markOf (x + 2 * (b.f0.length : Int) + 2)⟩
theorem getD_preA (pre rest : List S26) (b : S26) : rd_T26 (pre ++ b :: rest) (pre.length : Int) = b := by
  unfold rd_T26
  simp only [Int.toNat_natCast, getD_pre]
theorem laws_markAlarmS_eq (l : List S26) (hl : l.length ≤ 140737488351232) (hs : ∀ b ∈ l, b.f0.length ≤ 1048576) (x : Int) (h0 : 0 ≤ x) (hx : x + total szMA l ≤ 4611686018427387902) (k : Nat) (hk : 1048600 + l.length < k) :
    laws_markAlarmS.f k l x = some (x + total szMA l, markAll mkAl szMA l x) := by
  have h := mark_loop mkAl szMA 1048600 4611686018427387902 (fun b => b.f0.length ≤ 1048576) (fun k l x i => laws_markAlarmS.l0 k l x i) ?_ ?_ l [] k x h0 hx hl hs (by omega)
  · simpa [laws_markAlarmS.f] using h
  · intro k pre b rest x hk h0 hB hn hb
    unfold szMA at hB
    simp only [laws_markAlarmS.l0]
    have hlen : (pre ++ b :: rest).length = pre.length + rest.length + 1 := by simp; omega
    rw [if_pos (by rw [hlen]; omega), if_pos (by omega), getD_preA]
    rw [laws_markLabelS_eq b.f0 (by omega) x h0 (by omega) k (by omega)]
    simp only [Option.bind_some, Int.toNat_natCast, set_pre]
    rw [w64 (x := x + 2 * (b.f0.length : Int) + 1) (by omega) (by omega), w64 (x := x + 2 * (b.f0.length : Int) + 1 + 1) (by omega) (by omega), w64 (x := x + 2 * (b.f0.length : Int) + 1 + 1 + 1) (by omega) (by omega), w64 (x := (pre.length : Int) + 1) (by omega) (by omega), markText_eq _ (by omega) k (by omega)]
    simp only [Option.bind_some]
    have e : x + 2 * (b.f0.length : Int) + 1 + 1 + 1 = x + ((szMA b : Nat) : Int) := by unfold szMA; omega
    have e2 : x + 2 * (b.f0.length : Int) + 1 + 1 = x + 2 * (b.f0.length : Int) + 2 := by omega
    rw [e, e2]
    rfl
  · intro k l x _
    simp only [laws_markAlarmS.l0]
    rw [if_neg (by omega)]
theorem szMA_le (b : S26) (h : b.f0.length ≤ 1048576) : szMA b ≤ 2097155 := by unfold szMA; omega
theorem laws_heldAlarmS_eq (l : List S26) (hl : l.length ≤ 140737488351232) (hs : ∀ b ∈ l, b.f0.length ≤ 1048576) (x : Int) (h0 : 0 ≤ x) (hx : x + total szMA l ≤ 4611686018427387902) (k : Nat) (hk : 1048600 + l.length < k) :
    laws_heldAlarmS.f k (markAll mkAl szMA l x) x = some (x + total szMA l) := by
  have h := held_loop mkAl szMA 1048600 4611686018427387902 (fun b => b.f0.length ≤ 1048576) (fun k l x i => laws_heldAlarmS.l0 k l x i) ?_ ?_ l [] k x h0 hx hl hs (by omega)
  · simpa [laws_heldAlarmS.f] using h
  · intro k pre b rest x hk h0 hB hn hb
    unfold szMA at hB
    have hlen : (pre ++ mkAl b x :: rest).length = pre.length + rest.length + 1 := by simp; omega
    simp only [laws_heldAlarmS.l0]
    rw [if_pos (by rw [hlen]; omega), if_pos (by omega), getD_preA]
    have hh := laws_heldLabelS_eq b.f0 (by omega) x h0 (by omega) k (by omega)
    unfold mkAl
    dsimp only
    rw [hh]
    simp only [Option.bind_some]
    rw [if_neg (by omega), if_pos trivial, w64 (x := x + 2 * (b.f0.length : Int) + 1) (by omega) (by omega), if_pos rfl, w64 (x := x + 2 * (b.f0.length : Int) + 1 + 1) (by omega) (by omega), w64 (x := x + 2 * (b.f0.length : Int) + 1 + 1 + 1) (by omega) (by omega), w64 (x := (pre.length : Int) + 1) (by omega) (by omega)]
    have e : x + 2 * (b.f0.length : Int) + 1 + 1 + 1 = x + ((szMA b : Nat) : Int) := by unfold szMA; omega
    have e2 : x + 2 * (b.f0.length : Int) + 1 + 1 = x + 2 * (b.f0.length : Int) + 2 := by omega
    rw [e, e2, markText_eq _ (by omega) k (by omega)]
    simp only [Option.bind_some]
    rw [if_pos trivial]
    rfl
  · intro k l x _
    simp only [laws_heldAlarmS.l0]
    rw [if_neg (by omega)]
theorem laws_eqAlarmS_refl2 (l : List S26) (hn : l.length ≤ 140737488351232) (hs : ∀ b ∈ l, b.f0.length ≤ 1048576) (k : Nat) (hk : 1048600 + l.length < k) : laws_eqAlarmS.f k l l = some true := by
  unfold laws_eqAlarmS.f
  rw [if_pos rfl]
  rw [all_loop (n := l.length) (by omega) 1048577 (fun _ => true) (fun k i => laws_eqAlarmS.l0 k l l i) (some true) ?_ ?_ l.length k 0 (by omega) (by omega) (by omega) (by omega)]
  · rw [allFrom_true (fun _ => rfl)]; rfl
  · intro k i hk h0 h1
    have hm := hs _ (rdA_mem l i h0 h1)
    simp only [laws_eqAlarmS.l0]
    rw [if_pos h1, if_pos h0, if_pos h1, laws_eqAlarm_refl _ _ _ _ (by omega) _ (by omega)]
    rfl
  · intro k _
    simp only [laws_eqAlarmS.l0]
    rw [if_neg (by omega)]
theorem laws_eqChain_refl2 (f : Int) (l : List S26) (hn : l.length ≤ 140737488351232) (hs : ∀ b ∈ l, b.f0.length ≤ 1048576) (k : Nat) (hk : 1048600 + l.length < k) : laws_eqChain.f k f l f l = some true := by
  unfold laws_eqChain.f
  rw [laws_eqAlarmS_refl2 l hn hs k hk]
  simp
theorem totalMA_le : ∀ l : List S26, (∀ b ∈ l, b.f0.length ≤ 1048576) → total szMA l ≤ l.length * 2097155
  | [], _ => by simp [total]
  | b :: l, h => by
    rw [total_cons, List.length_cons, Nat.succ_mul]
    have h1 := totalMA_le l (fun d hd => h d (List.mem_cons_of_mem _ hd))
    have h2 := szMA_le b (h b List.mem_cons_self)
    omega

/-! ### AlarmsIn -/
def allIn (l : List S39) : List S26 := l.flatMap (fun c => c.f1)
theorem allIn_le : ∀ l : List S35, (allIn (chainsOf l)).length ≤ (l.map szC).sum
  | [] => by simp [allIn, chainsOf]
  | c :: l => by
    have h := allIn_le l
    have hc := len_le_szAs c.f1
    have e : (chainOf c).f1.length = c.f1.length := by simp [chainOf, alarmsOf]
    unfold allIn chainsOf at h ⊢
    rw [List.map_cons, List.flatMap_cons, List.length_append, List.map_cons, List.sum_cons, e]
    unfold szC at h ⊢
    omega
theorem allIn_ok (l : List S39) (hl : OkCs l) : ∀ a ∈ allIn l, a.f0.length ≤ 1048576 := by
  intro a ha
  obtain ⟨c, hc, ha⟩ := List.mem_flatMap.1 ha
  exact ((hl.2 c hc).2 a ha).1
def szMC (c : S39) : Nat := 1 + total szMA c.f1
def mkCh (c : S39) (x : Int) : S39 := ⟨x, markAll mkAl szMA c.f1 (x + 1)⟩
theorem totalMC_le : ∀ l : List S39, (∀ c ∈ l, OkAs c.f1) → total szMC l ≤ l.length + (allIn l).length * 2097155
  | [], _ => by simp [total]
  | c :: l, h => by
    have h1 := totalMC_le l (fun d hd => h d (List.mem_cons_of_mem _ hd))
    have h2 := totalMA_le c.f1 (fun b hb => ((h c List.mem_cons_self).2 b hb).1)
    have e : allIn (c :: l) = c.f1 ++ allIn l := by simp [allIn]
    rw [total_cons, e, List.length_append, List.length_cons, Nat.add_mul]
    unfold szMC at h1 ⊢
    omega
theorem getD_preC (pre rest : List S39) (b : S39) : rd_T39 (pre ++ b :: rest) (pre.length : Int) = b := by
  unfold rd_T39
  simp only [Int.toNat_natCast, getD_pre]
theorem laws_markChainS_eq (l : List S39) (hl : l.length ≤ 140737488351232) (hs : ∀ b ∈ l, OkAs b.f1) (x : Int) (h0 : 0 ≤ x) (hx : x + total szMC l ≤ 4611686018427387902) (k : Nat) (hk : 3300000 + l.length < k) :
    laws_markChainS.f k l x = some (x + total szMC l, markAll mkCh szMC l x) := by
  have h := mark_loop mkCh szMC 3300000 4611686018427387902 (fun b => OkAs b.f1) (fun k l x i => laws_markChainS.l0 k l x i) ?_ ?_ l [] k x h0 hx hl hs (by omega)
  · simpa [laws_markChainS.f] using h
  · intro k pre b rest x hk h0 hB hn hb
    have hb1 := hb.1
    unfold szMC at hB
    simp only [laws_markChainS.l0]
    have hlen : (pre ++ b :: rest).length = pre.length + rest.length + 1 := by simp; omega
    rw [if_pos (by rw [hlen]; omega), if_pos (by omega), getD_preC, w64 (x := x + 1) (by omega) (by omega)]
    rw [laws_markAlarmS_eq b.f1 (by omega) (fun a ha => (hb.2 a ha).1) (x + 1) (by omega) (by omega) k (by omega)]
    simp only [Option.bind_some, Int.toNat_natCast, set_pre]
    rw [w64 (x := (pre.length : Int) + 1) (by omega) (by omega)]
    have e : x + 1 + (total szMA b.f1 : Int) = x + ((szMC b : Nat) : Int) := by unfold szMC; omega
    rw [e]
    rfl
  · intro k l x _
    simp only [laws_markChainS.l0]
    rw [if_neg (by omega)]

/-! ### DropOver -/
/-- What is not over, and what is, in order. -/
def dropTo (x : Int) : List S26 → List S26 → List S26 → List S26 × List S26
  | [], o, g => (o, g)
  | a :: r, o, g => if a.f2 ≤ x then dropTo x r o (g ++ [a]) else dropTo x r (o ++ [a]) g
theorem dropTo_ok (x : Int) : ∀ (l o g : List S26), (∀ a ∈ l, a.f0.length ≤ 1048576) → (∀ a ∈ o, a.f0.length ≤ 1048576) → (∀ a ∈ g, a.f0.length ≤ 1048576) →
    (dropTo x l o g).1.length ≤ o.length + l.length ∧ (dropTo x l o g).2.length ≤ g.length + l.length ∧ (∀ a ∈ (dropTo x l o g).1, a.f0.length ≤ 1048576) ∧ (∀ a ∈ (dropTo x l o g).2, a.f0.length ≤ 1048576)
  | [], o, g, _, ho, hg => ⟨by simp [dropTo], by simp [dropTo], ho, hg⟩
  | a :: r, o, g, hl, ho, hg => by
    have hr : ∀ b ∈ r, b.f0.length ≤ 1048576 := fun b hb => hl b (List.mem_cons_of_mem _ hb)
    have ha := hl a List.mem_cons_self
    have hadd : ∀ q : List S26, (∀ b ∈ q, b.f0.length ≤ 1048576) → ∀ b ∈ q ++ [a], b.f0.length ≤ 1048576 := by
      intro q hq b hb
      rcases List.mem_append.1 hb with hb | hb
      · exact hq b hb
      · rw [List.mem_singleton.1 hb]; exact ha
    unfold dropTo
    split
    · obtain ⟨h1, h2, h3, h4⟩ := dropTo_ok x r o (g ++ [a]) hr ho (hadd g hg)
      simp only [List.length_append, List.length_cons, List.length_nil] at h1 h2 ⊢
      exact ⟨by omega, by omega, h3, h4⟩
    · obtain ⟨h1, h2, h3, h4⟩ := dropTo_ok x r (o ++ [a]) g hr (hadd o ho) hg
      simp only [List.length_append, List.length_cons, List.length_nil] at h1 h2 ⊢
      exact ⟨by omega, by omega, h3, h4⟩
theorem impl_DropOver2_go_eq (x : Int) : ∀ (l o g : List S26), o.length + l.length ≤ 1048576 → g.length + l.length ≤ 1048576 → (∀ a ∈ l, a.f0.length ≤ 1048576) → impl_DropOver2.go x l o g = some (dropTo x l o g)
  | [], o, g, _, _, _ => rfl
  | a :: r, o, g, hn, hm, hl => by
    have hr : ∀ b ∈ r, b.f0.length ≤ 1048576 := fun b hb => hl b (List.mem_cons_of_mem _ hb)
    have ha := hl a List.mem_cons_self
    simp only [List.length_cons] at hn hm
    unfold impl_DropOver2.go dropTo
    rw [show impl_Over.f a.f0 a.f1 a.f2 a.f3 x = some (decide (a.f2 ≤ x)) from rfl, impl_copyAlarm_eq _ _ _ _ (by omega)]
    simp only [Option.bind_some]
    by_cases c : a.f2 ≤ x
    · rw [if_pos (decide_eq_true c), if_pos (by omega), if_pos c]
      exact impl_DropOver2_go_eq x r o (g ++ [a]) (by omega) (by simp only [List.length_append, List.length_cons, List.length_nil]; omega) hr
    · rw [if_neg (by simpa using c), if_pos (by omega), if_neg c]
      exact impl_DropOver2_go_eq x r (o ++ [a]) g (by simp only [List.length_append, List.length_cons, List.length_nil]; omega) (by omega) hr
theorem impl_DropOver2_eq (f : Int) (l : List S26) (x : Int) (hn : l.length ≤ 1048576) (hl : ∀ a ∈ l, a.f0.length ≤ 1048576) (k : Nat) : impl_DropOver2.f k f l x = some (f, (dropTo x l [] []).1, (dropTo x l [] []).2) := by
  unfold impl_DropOver2.f
  rw [impl_DropOver2_go_eq x l [] [] (by simpa using hn) (by simpa using hn) hl]
  rfl
theorem spec_DropOver_l (f x : Int) (l : List S26) (hn : l.length ≤ 1048576) (hl : ∀ a ∈ l, a.f0.length ≤ 1048576) (d : Nat) : ∀ (k : Nat) (i : Int) (o g : List S26), 0 ≤ i → i + d = (l.length : Int) → o.length + d ≤ 1048576 → g.length + d ≤ 1048576 → d < k →
    spec_DropOver.l0 k x g i f l f o = some (f, (dropTo x (l.drop i.toNat) o g).1, (dropTo x (l.drop i.toNat) o g).2) := by
  induction d with
  | zero =>
    intro k i o g h0 hd ho hg hk
    obtain ⟨k, rfl⟩ : ∃ m, k = m + 1 := ⟨k - 1, by omega⟩
    simp only [spec_DropOver.l0]
    rw [if_neg (by omega), List.drop_eq_nil_of_le (by omega)]
    rfl
  | succ d ih =>
    intro k i o g h0 hd ho hg hk
    obtain ⟨k, rfl⟩ : ∃ m, k = m + 1 := ⟨k - 1, by omega⟩
    have ha := hl _ (rdA_mem l i h0 (by omega))
    have hdr := drop_cons z26 l i h0 (by omega)
    have e : dropTo x (l.drop i.toNat) o g = if (rd_T26 l i).f2 ≤ x then dropTo x (l.drop (i + 1).toNat) o (g ++ [rd_T26 l i]) else dropTo x (l.drop (i + 1).toNat) (o ++ [rd_T26 l i]) g := by rw [hdr]; rfl
    rw [spec_DropOver.l0, if_pos (by omega), if_pos h0, spec_l4Copy_eq _ _ _ _ (by omega)]
    simp only [Option.bind_some]
    rw [show spec_Over.f (rd_T26 l i).f0 (rd_T26 l i).f1 (rd_T26 l i).f2 (rd_T26 l i).f3 x = some (decide ((rd_T26 l i).f2 ≤ x)) from rfl, e]
    clear e hdr
    simp only [Option.bind_some]
    rw [w64 (x := i + 1) (by omega) (by omega)]
    by_cases c : (rd_T26 l i).f2 ≤ x
    · rw [if_pos (decide_eq_true c), if_pos (by omega), if_pos c]
      exact ih k (i + 1) o _ (by omega) (by omega) (by omega) (by simp only [List.length_append, List.length_cons, List.length_nil]; omega) (by omega)
    · rw [if_neg (by simpa using c), if_pos (by omega), if_neg c]
      exact ih k (i + 1) _ g (by omega) (by omega) (by simp only [List.length_append, List.length_cons, List.length_nil]; omega) (by omega) (by omega)
theorem spec_DropOver_eq (f : Int) (l : List S26) (x : Int) (hn : l.length ≤ 1048576) (hl : ∀ a ∈ l, a.f0.length ≤ 1048576) (k : Nat) (hk : 1048577 < k) : spec_DropOver.f k f l x = some (f, (dropTo x l [] []).1, (dropTo x l [] []).2) := by
  unfold spec_DropOver.f
  exact spec_DropOver_l f x l hn hl l.length k 0 [] [] (by omega) (by omega) (by simpa using hn) (by simpa using hn) (by omega)

/-! ### SweepIn -/
theorem dropTo_mem (x : Int) : ∀ (l o g : List S26), (∀ a ∈ (dropTo x l o g).1, a ∈ o ∨ a ∈ l) ∧ (∀ a ∈ (dropTo x l o g).2, a ∈ g ∨ a ∈ l) ∧ (dropTo x l o g).1.length + (dropTo x l o g).2.length = o.length + g.length + l.length
  | [], o, g => ⟨fun a h => Or.inl h, fun a h => Or.inl h, by simp [dropTo]⟩
  | a :: r, o, g => by
    have put : ∀ (q : List S26) (b : S26), (b ∈ q ++ [a] ∨ b ∈ r) → b ∈ q ∨ b ∈ a :: r := by
      intro q b hb
      rcases hb with hb | hb
      · rcases List.mem_append.1 hb with hb | hb
        · exact Or.inl hb
        · rw [List.mem_singleton.1 hb]; exact Or.inr List.mem_cons_self
      · exact Or.inr (List.mem_cons_of_mem _ hb)
    have skip : ∀ (q : List S26) (b : S26), (b ∈ q ∨ b ∈ r) → b ∈ q ∨ b ∈ a :: r := fun q b hb => hb.imp id (List.mem_cons_of_mem _)
    unfold dropTo
    split
    · obtain ⟨h1, h2, h3⟩ := dropTo_mem x r o (g ++ [a])
      refine ⟨fun b hb => skip o b (h1 b hb), fun b hb => put g b (h2 b hb), ?_⟩
      simp only [List.length_append, List.length_cons, List.length_nil] at h3 ⊢
      omega
    · obtain ⟨h1, h2, h3⟩ := dropTo_mem x r (o ++ [a]) g
      refine ⟨fun b hb => put o b (h1 b hb), fun b hb => skip g b (h2 b hb), ?_⟩
      simp only [List.length_append, List.length_cons, List.length_nil] at h3 ⊢
      omega
/-- What is left in each chain that has something left, and all that is over. -/
def sweep (x : Int) : List S39 → List S39 → List S26 → List S39 × List S26
  | [], o, g => (o, g)
  | c :: r, o, g => if 0 < (dropTo x c.f1 [] []).1.length then sweep x r (o ++ [⟨c.f0, (dropTo x c.f1 [] []).1⟩]) (g ++ (dropTo x c.f1 [] []).2) else sweep x r o (g ++ (dropTo x c.f1 [] []).2)
theorem dropTo_okAs (x : Int) (l : List S26) (h : OkAs l) : OkAs (dropTo x l [] []).1 ∧ OkAs (dropTo x l [] []).2 := by
  obtain ⟨h1, h2, h3⟩ := dropTo_mem x l [] []
  have hl := h.1
  simp only [List.length_nil] at h3
  refine ⟨⟨by omega, fun a ha => ?_⟩, ⟨by omega, fun a ha => ?_⟩⟩
  · rcases h1 a ha with q | q
    · cases q
    · exact h.2 a q
  · rcases h2 a ha with q | q
    · cases q
    · exact h.2 a q
theorem sweep_ok (x : Int) : ∀ (l o : List S39) (g : List S26), (∀ c ∈ l, OkAs c.f1) → (∀ c ∈ o, OkAs c.f1) → (∀ a ∈ g, OkA a) →
    (∀ c ∈ (sweep x l o g).1, OkAs c.f1) ∧ (∀ a ∈ (sweep x l o g).2, OkA a) ∧ (sweep x l o g).1.length ≤ o.length + l.length ∧ (allIn (sweep x l o g).1).length + (sweep x l o g).2.length ≤ (allIn o).length + g.length + (allIn l).length
  | [], o, g, _, ho, hg => ⟨ho, hg, by simp [sweep], by simp [sweep]⟩
  | c :: r, o, g, hl, ho, hg => by
    have hr : ∀ b ∈ r, OkAs b.f1 := fun b hb => hl b (List.mem_cons_of_mem _ hb)
    have hc := dropTo_okAs x c.f1 (hl c List.mem_cons_self)
    have hm := (dropTo_mem x c.f1 [] []).2.2
    simp only [List.length_nil] at hm
    have e : (allIn (c :: r)).length = c.f1.length + (allIn r).length := by simp [allIn]
    have hg' : ∀ a ∈ g ++ (dropTo x c.f1 [] []).2, OkA a := by
      intro a ha
      rcases List.mem_append.1 ha with q | q
      · exact hg a q
      · exact hc.2.2 a q
    unfold sweep
    split
    · have ho' : ∀ b ∈ o ++ [(⟨c.f0, (dropTo x c.f1 [] []).1⟩ : S39)], OkAs b.f1 := by
        intro b hb
        rcases List.mem_append.1 hb with q | q
        · exact ho b q
        · rw [List.mem_singleton.1 q]; exact hc.1
      obtain ⟨h1, h2, h3, h4⟩ := sweep_ok x r _ _ hr ho' hg'
      refine ⟨h1, h2, ?_, ?_⟩
      · simp only [List.length_append, List.length_cons, List.length_nil] at h3 ⊢; omega
      · have e2 : (allIn (o ++ [(⟨c.f0, (dropTo x c.f1 [] []).1⟩ : S39)])).length = (allIn o).length + (dropTo x c.f1 [] []).1.length := by simp [allIn]
        rw [e2, List.length_append] at h4
        omega
    · obtain ⟨h1, h2, h3, h4⟩ := sweep_ok x r _ _ hr ho hg'
      refine ⟨h1, h2, ?_, ?_⟩
      · simp only [List.length_cons] at h3 ⊢; omega
      · rw [List.length_append] at h4
        omega
theorem impl_SweepIn2_go_eq (k : Nat) (x : Int) : ∀ (l o : List S39) (g : List S26), (∀ c ∈ l, OkAs c.f1) → o.length + l.length ≤ 1048576 → g.length + (allIn l).length ≤ 1048576 → impl_SweepIn2.go k x l o g = some (sweep x l o g)
  | [], o, g, _, _, _ => rfl
  | c :: r, o, g, hl, hn, hm => by
    have hr : ∀ b ∈ r, OkAs b.f1 := fun b hb => hl b (List.mem_cons_of_mem _ hb)
    have hc := hl c List.mem_cons_self
    have hd := (dropTo_mem x c.f1 [] []).2.2
    have e : (allIn (c :: r)).length = c.f1.length + (allIn r).length := by simp [allIn]
    simp only [List.length_nil] at hd
    simp only [List.length_cons] at hn
    unfold impl_SweepIn2.go sweep
    rw [impl_DropOver2_eq c.f0 c.f1 x hc.1 (fun a ha => (hc.2 a ha).1) k]
    simp only [Option.bind_some]
    rw [if_pos (by omega)]
    split
    · rw [if_pos (by omega)]
      exact impl_SweepIn2_go_eq k x r _ _ hr (by simp only [List.length_append, List.length_cons, List.length_nil]; omega) (by rw [List.length_append]; omega)
    · exact impl_SweepIn2_go_eq k x r _ _ hr (by omega) (by rw [List.length_append]; omega)
theorem spec_SweepIn2_go_eq (k : Nat) (hk : 1048577 < k) (x : Int) : ∀ (l o : List S39) (g : List S26), (∀ c ∈ l, OkAs c.f1) → o.length + l.length ≤ 1048576 → g.length + (allIn l).length ≤ 1048576 → spec_SweepIn2.go k x l o g = some (sweep x l o g)
  | [], o, g, _, _, _ => rfl
  | c :: r, o, g, hl, hn, hm => by
    have hr : ∀ b ∈ r, OkAs b.f1 := fun b hb => hl b (List.mem_cons_of_mem _ hb)
    have hc := hl c List.mem_cons_self
    have hd := (dropTo_mem x c.f1 [] []).2.2
    have e : (allIn (c :: r)).length = c.f1.length + (allIn r).length := by simp [allIn]
    simp only [List.length_nil] at hd
    simp only [List.length_cons] at hn
    unfold spec_SweepIn2.go sweep
    rw [spec_DropOver_eq c.f0 c.f1 x hc.1 (fun a ha => (hc.2 a ha).1) k hk]
    simp only [Option.bind_some]
    rw [if_pos (by omega)]
    split
    · rw [if_pos (by omega)]
      exact spec_SweepIn2_go_eq k hk x r _ _ hr (by simp only [List.length_append, List.length_cons, List.length_nil]; omega) (by rw [List.length_append]; omega)
    · exact spec_SweepIn2_go_eq k hk x r _ _ hr (by omega) (by rw [List.length_append]; omega)
theorem laws_heldChainS_eq (l : List S39) (hl : l.length ≤ 140737488351232) (hs : ∀ b ∈ l, OkAs b.f1) (x : Int) (h0 : 0 ≤ x) (hx : x + total szMC l ≤ 4611686018427387902) (k : Nat) (hk : 3300000 + l.length < k) :
    laws_heldChainS.f k (markAll mkCh szMC l x) x = some (x + total szMC l) := by
  have h := held_loop mkCh szMC 3300000 4611686018427387902 (fun b => OkAs b.f1) (fun k l x i => laws_heldChainS.l0 k l x i) ?_ ?_ l [] k x h0 hx hl hs (by omega)
  · simpa [laws_heldChainS.f] using h
  · intro k pre b rest x hk h0 hB hn hb
    have hb1 := hb.1
    unfold szMC at hB
    have hlen : (pre ++ mkCh b x :: rest).length = pre.length + rest.length + 1 := by simp; omega
    simp only [laws_heldChainS.l0]
    rw [if_pos (by rw [hlen]; omega), if_pos (by omega), getD_preC]
    have hh := laws_heldAlarmS_eq b.f1 (by omega) (fun a ha => (hb.2 a ha).1) (x + 1) (by omega) (by omega) k (by omega)
    unfold mkCh
    dsimp only
    rw [if_pos rfl, w64 (x := x + 1) (by omega) (by omega), hh]
    simp only [Option.bind_some]
    rw [if_neg (by omega), w64 (x := (pre.length : Int) + 1) (by omega) (by omega)]
    have e : x + 1 + (total szMA b.f1 : Int) = x + ((szMC b : Nat) : Int) := by unfold szMC; omega
    rw [e]
    rfl
  · intro k l x _
    simp only [laws_heldChainS.l0]
    rw [if_neg (by omega)]

theorem FnExactSweepIn (aH aV : Int) (aL : List S35) (x : Int) (ha : (Lit.int .i64 aH).wf = true ∧ (Lit.int .i64 aV).wf = true ∧ WfCs aL) (hx : (Lit.int .i64 x).wf = true) : ∃ k, laws_FnExactSweepIn.f k aH aV aL x = some true := by
  obtain ⟨m, hm⟩ : ∃ m : Nat, 16777216 < m := ⟨16777217, by omega⟩
  refine ⟨m, laws_FnExactSweepIn.f_of ?_⟩
  unfold laws_FnExactSweepIn.Facts
  obtain ⟨left1, hleft1⟩ : ∃ x, x = left' (szCs aL) 1048576 := ⟨_, rfl⟩
  have h1 := laws_szPart_eq aH aV aL ha.2.2 1048576 (by omega) (by omega) m (by omega)
  rw [← hleft1] at h1
  by_cases hz1 : left1 < 0
  · exact Or.inl ⟨left1, h1, decide_eq_true hz1⟩
  have hb1 : ((szCs aL : Nat) : Int) ≤ 1048576 := left_ge (by omega) (by rw [← hleft1]; exact hz1)
  refine Or.inr ?_
  have qa := okCs_of aL (by omega)
  have qa1 := qa.1
  have ca := allIn_le aL
  have sz : (aL.map szC).sum ≤ szCs aL := by unfold szCs; omega
  have fa := allIn_ok (chainsOf aL) qa
  have ip : impl_SweepIn2.f m aH aV (chainsOf aL) x = some (aH, (if 0 < (sweep x (chainsOf aL) [] []).2.length then wrap64 (aV + 1) else aV), (sweep x (chainsOf aL) [] []).1, (sweep x (chainsOf aL) [] []).2) := by
    unfold impl_SweepIn2.f
    rw [impl_SweepIn2_go_eq m x (chainsOf aL) [] [] qa.2 (by simp only [List.length_nil]; omega) (by simp only [List.length_nil]; omega)]; rfl
  have sp : spec_SweepIn2.f m aH aV (chainsOf aL) x = some (aH, (if 0 < (sweep x (chainsOf aL) [] []).2.length then wrap64 (aV + 1) else aV), (sweep x (chainsOf aL) [] []).1, (sweep x (chainsOf aL) [] []).2) := by
    unfold spec_SweepIn2.f
    rw [spec_SweepIn2_go_eq m (by omega) x (chainsOf aL) [] [] qa.2 (by simp only [List.length_nil]; omega) (by simp only [List.length_nil]; omega)]; rfl
  have ok := sweep_ok x (chainsOf aL) [] [] qa.2 (by simp) (by simp)
  generalize (if 0 < (sweep x (chainsOf aL) [] []).2.length then wrap64 (aV + 1) else aV) = v1 at ip sp
  generalize sweep x (chainsOf aL) [] [] = pc at ip sp ok
  obtain ⟨so, sg⟩ := pc
  obtain ⟨k1, k2, k3, k4⟩ := ok
  simp only [List.length_nil, Nat.zero_add] at k3 k4
  have e0 : (allIn ([] : List S39)).length = 0 := rfl
  rw [e0] at k4
  try dsimp only at ip sp k1 k2 k3 k4
  have fg : ∀ a ∈ sg, a.f0.length ≤ 1048576 := fun a ha => (k2 a ha).1
  have tp := totalMC_le (chainsOf aL) qa.2
  have tso := totalMC_le so k1
  have tg := totalMA_le sg fg
  have hA : (allIn (chainsOf aL)).length * 2097155 ≤ 1048577 * 2097155 := Nat.mul_le_mul_right _ (by omega)
  have hO : (allIn so).length * 2097155 ≤ 1048577 * 2097155 := Nat.mul_le_mul_right _ (by omega)
  have hG : sg.length * 2097155 ≤ 1048577 * 2097155 := Nat.mul_le_mul_right _ (by omega)
  have m1 : laws_markPart.f m aH aV (chainsOf aL) 1 = _ := laws_markChainS_eq (chainsOf aL) (by omega) qa.2 1 (by omega) (by omega) m (by omega)
  have m2 : laws_markPart.f m aH v1 so 1 = _ := laws_markChainS_eq so (by omega) k1 1 (by omega) (by omega) m (by omega)
  have m3 := laws_markAlarmS_eq sg (by omega) fg (1 + (total szMC so : Int)) (by omega) (by omega) m (by omega)
  have d2 : laws_heldPart.f m aH v1 (markAll mkCh szMC so 1) 1 = some (1 + (total szMC so : Int)) := by
    unfold laws_heldPart.f
    rw [laws_heldChainS_eq so (by omega) k1 1 (by omega) (by omega) m (by omega)]
    simp only [Option.bind_some]
    rw [if_neg (by omega)]
  have d3 := laws_heldAlarmS_eq sg (by omega) fg (1 + (total szMC so : Int)) (by omega) (by omega) m (by omega)
  exact ⟨left1, aH, aV, chainsOf aL, aH, v1, so, sg, _, _, _, _, _, _, h1, laws_toPart_eq aH aV aL (by omega) m (by omega), sp, ip, laws_eqPart_refl aH v1 so ⟨by omega, k1⟩ m (by omega), laws_eqAlarmS_refl2 sg (by omega) fg m (by omega), laws_eqPart_refl aH aV _ qa m (by omega), m1, m2, m3, d2, d3,
    decide_eq_false hz1, decide_eq_false (by omega), decide_eq_false (by omega), decide_eq_false (by omega), bne_self_eq_false _⟩

end Go.Proofs.Ytgindocfjoalhaa.Pure
