/- The program's SamePart returns what the reference's SamePart returns, for all arguments, and leaves them alone; no conditions. -/
import Derived.Test.YtglefglknlcojacPFnExactSamePartx10
import Derived.Test.YtglefglknlcojacM0
import Derived.Test.YtglefglknlcojacM1
import Derived.Test.YtglefglknlcojacM2
import Derived.Test.YtglefglknlcojacM3
import Derived.Test.YtglefglknlcojacM4
import Derived.Test.YtglefglknlcojacM5
set_option linter.unusedVariables false
set_option linter.unusedSimpArgs false
namespace Go.Proofs.Ytglefglknlcojac.Pure
open Go.RowKit Go.Proofs.Ytglefglknlcojac.PFnExactSamePart Go.Proofs.YtglefglknlcojacW.PrintWords Go.Proofs.YtglefglknlcojacW.PrintLast Go.Proofs.Ytglefglknlcojac.M0 Go.Proofs.Ytglefglknlcojac.M1 Go.Proofs.Ytglefglknlcojac.M2 Go.Proofs.Ytglefglknlcojac.M3 Go.Proofs.Ytglefglknlcojac.M4 Go.Proofs.Ytglefglknlcojac.M5

/-! ### LabS -/
def labOf (x : S143) : S105 := ⟨x.f0, x.f1⟩
def labsOf (l : List S143) : List S105 := l.map labOf
def szLab (x : S143) : Nat := x.f0.size + x.f1.size
def szL (l : List S143) : Nat := l.length + (l.map szLab).sum
/-- Sizes that Go knows. -/
def WfL (l : List S143) : Prop := l.length ≤ 9223372036854775807 ∧ ∀ x ∈ l, x.f0.size ≤ 9223372036854775807 ∧ x.f1.size ≤ 9223372036854775807
theorem labsOf_length (l : List S143) : (labsOf l).length = l.length := by simp [labsOf]
theorem len_le_szL (l : List S143) : l.length ≤ szL l := by unfold szL; omega
theorem sum_mem {α : Type} (f : α → Nat) : ∀ (l : List α) (x : α), x ∈ l → f x ≤ (l.map f).sum
  | [], x, h => by simp at h
  | a :: l, x, h => by
    rcases List.mem_cons.1 h with rfl | h
    · simp
    · have := sum_mem f l x h
      simp only [List.map_cons, List.sum_cons]
      omega
theorem laws_szLabel_eq (a b : ByteArray) (ha : a.size ≤ 9223372036854775807) (hb : b.size ≤ 9223372036854775807) (left : Int) (h0 : 0 ≤ left) (h1 : left ≤ 1048576) : laws_szLabel.f a b left = some (left' (a.size + b.size) left) := by
  unfold laws_szLabel.f
  rw [← left_add _ _ _ h0, left_of_wrap ha h0 h1 (fun t => if (wrap64 (t - (b.size : Int))) < 0 then (some (-1)) else (some (wrap64 (t - (b.size : Int)))))]
  by_cases hz : left' a.size left < 0
  · rw [if_pos hz, if_pos hz]
  · rw [if_neg hz, if_neg hz]
    have hle := left_ge h0 hz
    have e : left' a.size left = left - a.size := by unfold left'; rw [if_pos hle]
    rw [left_of_wrap hb (by omega) (by omega) (fun t => some t)]
    by_cases hy : left' b.size (left' a.size left) < 0
    · rw [if_pos hy]
      rw [left_neg_one (by omega) hy]
    · rw [if_neg hy]
theorem rdML_mem (l : List S143) (i : Int) (h0 : 0 ≤ i) (h1 : i < (l.length : Int)) : rd_T143 l i ∈ l := by
  unfold rd_T143
  rw [List.getD_eq_getElem?_getD, List.getElem?_eq_getElem (by omega)]
  exact List.getElem_mem (by omega)
theorem laws_szLabelS_eq (l : List S143) (hl : WfL l) (left : Int) (h0 : 0 ≤ left) (h1 : left ≤ 1048576) (k : Nat) (hk : 1048577 < k) :
    laws_szLabelS.f k l left = some (left' (szL l) left) := by
  unfold laws_szLabelS.f szL
  rw [left_of_wrap (n := l.length) hl.1 h0 h1 (fun t => laws_szLabelS.l0 k l t 0), ← left_add _ _ _ h0]
  by_cases hz : left' l.length left < 0
  · rw [if_pos hz, if_pos hz]
  · rw [if_neg hz, if_neg hz]
    have hle := left_ge h0 hz
    rw [budget_loop l (by omega) szLab z143 0 (fun k t i => laws_szLabelS.l0 k l t i) ?_ ?_ l.length k 0 _ (by omega) (by omega) (by omega) (left_le h1) (by omega)]
    · simp
    · intro k i left _ hi hi' hl0 hl1
      have hm := hl.2 _ (rdML_mem l i hi hi')
      simp only [laws_szLabelS.l0]
      rw [if_pos hi', if_pos hi, laws_szLabel_eq _ _ hm.1 hm.2 _ hl0 hl1]
      rfl
    · intro k left _
      simp only [laws_szLabelS.l0]
      rw [if_neg (by omega)]
theorem laws_toLabelS_eq (l : List S143) (hl : l.length ≤ 1048576) (k : Nat) (hk : 1048577 < k) : laws_toLabelS.f k l = some (labsOf l) := by
  unfold laws_toLabelS.f
  rw [if_pos (by omega), if_pos (by omega)]
  have h := fill_loop l (by omega) labOf z143 0 (fun k out i => laws_toLabelS.l0 k l out i) ?_ ?_ k z105 (by omega)
  · exact h
  · intro k i out _ hi hi' ho
    simp only [laws_toLabelS.l0]
    rw [if_pos hi', if_pos hi]
    simp only [laws_toLabel.f, Option.bind_some]
    rw [if_pos (by omega)]
    rfl
  · intro k out _
    simp only [laws_toLabelS.l0]
    rw [if_neg (by omega)]
theorem sized_labs (l : List S143) (h : szL l ≤ 1048576) : ∀ x ∈ labsOf l, x.f0.size ≤ 1048576 ∧ x.f1.size ≤ 1048576 := by
  intro x hx
  obtain ⟨y, hy, rfl⟩ := List.mem_map.1 hx
  have := sum_mem szLab l y hy
  have h1 : y.f0.size + y.f1.size ≤ (l.map szLab).sum := this
  unfold szL at h
  show y.f0.size ≤ _ ∧ y.f1.size ≤ _
  omega

/-! ### EqL -/
theorem laws_eqLabelS_refl (l : List S105) (hl : l.length ≤ 140737488351232) (k : Nat) (hk : l.length < k) : laws_eqLabelS.f k l l = some true := by
  unfold laws_eqLabelS.f
  rw [if_pos rfl]
  rw [all_loop (n := l.length) (by omega) 0 (fun _ => true) (fun k i => laws_eqLabelS.l0 k l l i) (some true) ?_ ?_ l.length k 0 (by omega) (by omega) (by omega) (by omega)]
  · rw [allFrom_true (fun _ => rfl)]; rfl
  · intro k i _ h0 h1
    simp only [laws_eqLabelS.l0]
    rw [if_pos h1, if_pos h0, if_pos h1]
    simp only [laws_eqLabel.f, Option.bind_some, if_true]
  · intro k _
    simp only [laws_eqLabelS.l0]
    rw [if_neg (by omega)]

/-! ### AlarmS -/
def WfA (l : List S143) (note : ByteArray) : Prop := WfL l ∧ note.size ≤ 9223372036854775807
theorem laws_szAlarm_eq (l : List S143) (s e : Int) (note : ByteArray) (h : WfL l) (hn : note.size ≤ 9223372036854775807) (left : Int) (h0 : 0 ≤ left) (h1 : left ≤ 1048576) (k : Nat) (hk : 1048577 < k) :
    laws_szAlarm.f k l s e note left = some (left' (szL l + note.size) left) := by
  unfold laws_szAlarm.f
  rw [laws_szLabelS_eq l h left h0 h1 k hk, ← left_add _ _ _ h0]
  simp only [Option.bind_some]
  by_cases hz : left' (szL l) left < 0
  · rw [if_pos hz, if_pos hz]
  · rw [if_neg hz, if_neg hz]
    have hle := left_le (t := szL l) h1
    rw [left_of_wrap hn (by omega) hle (fun t => some t)]
    by_cases hy : left' note.size (left' (szL l) left) < 0
    · rw [if_pos hy, left_neg_one (by omega) hy]
    · rw [if_neg hy]
theorem laws_toAlarm_eq (l : List S143) (s e : Int) (note : ByteArray) (hl : l.length ≤ 1048576) (k : Nat) (hk : 1048577 < k) : laws_toAlarm.f k l s e note = some (labsOf l, s, e, note) := by
  unfold laws_toAlarm.f
  rw [laws_toLabelS_eq l hl k hk]
  rfl
theorem laws_eqAlarm_refl (l : List S105) (s e : Int) (note : ByteArray) (hl : l.length ≤ 140737488351232) (k : Nat) (hk : l.length < k) : laws_eqAlarm.f k l s e note l s e note = some true := by
  unfold laws_eqAlarm.f
  rw [laws_eqLabelS_refl l hl k hk]
  simp

/-! ### AlarmsS -/
def WfA1 (x : S82) : Prop := WfL x.f0 ∧ (Lit.int .i64 x.f1).wf = true ∧ (Lit.int .i64 x.f2).wf = true ∧ x.f3.size ≤ 9223372036854775807
def WfAs (l : List S82) : Prop := l.length ≤ 9223372036854775807 ∧ ∀ x ∈ l, WfA1 x
def szA (x : S82) : Nat := szL x.f0 + x.f3.size
def szAs (l : List S82) : Nat := l.length + (l.map szA).sum
def alarmOf (x : S82) : S56 := ⟨labsOf x.f0, x.f1, x.f2, x.f3⟩
def alarmsOf (l : List S82) : List S56 := l.map alarmOf
def OkA (a : S56) : Prop := a.f0.length ≤ 1048576 ∧ (∀ x ∈ a.f0, x.f0.size ≤ 1048576 ∧ x.f1.size ≤ 1048576) ∧ a.f3.size ≤ 1048576
def OkAs (l : List S56) : Prop := l.length ≤ 1048576 ∧ ∀ a ∈ l, OkA a
theorem len_le_szAs (l : List S82) : l.length ≤ szAs l := by unfold szAs; omega
theorem mem_szAs (l : List S82) (x : S82) (hx : x ∈ l) : szA x ≤ szAs l := by
  have := sum_mem szA l x hx
  unfold szAs
  omega
theorem okA_of (x : S82) (h : szA x ≤ 1048576) : OkA (alarmOf x) := by
  unfold szA at h
  have := len_le_szL x.f0
  refine ⟨?_, ?_, ?_⟩
  · show (labsOf x.f0).length ≤ _
    rw [labsOf_length]; omega
  · exact sized_labs x.f0 (by omega)
  · show x.f3.size ≤ _
    omega
theorem okAs_of (l : List S82) (h : szAs l ≤ 1048576) : OkAs (alarmsOf l) := by
  refine ⟨?_, fun a ha => ?_⟩
  · have := len_le_szAs l
    simp [alarmsOf]; omega
  · obtain ⟨x, hx, rfl⟩ := List.mem_map.1 ha
    have := mem_szAs l x hx
    exact okA_of x (by omega)
theorem rdMA_mem (l : List S82) (i : Int) (h0 : 0 ≤ i) (h1 : i < (l.length : Int)) : rd_T82 l i ∈ l := by
  unfold rd_T82
  rw [List.getD_eq_getElem?_getD, List.getElem?_eq_getElem (by omega)]
  exact List.getElem_mem (by omega)
theorem rdA_mem (l : List S56) (i : Int) (h0 : 0 ≤ i) (h1 : i < (l.length : Int)) : rd_T56 l i ∈ l := by
  unfold rd_T56
  rw [List.getD_eq_getElem?_getD, List.getElem?_eq_getElem (by omega)]
  exact List.getElem_mem (by omega)
theorem laws_szAlarmS_eq (l : List S82) (hl : WfAs l) (left : Int) (h0 : 0 ≤ left) (h1 : left ≤ 1048576) (k : Nat) (hk : 2200000 < k) :
    laws_szAlarmS.f k l left = some (left' (szAs l) left) := by
  unfold laws_szAlarmS.f szAs
  rw [left_of_wrap (n := l.length) hl.1 h0 h1 (fun t => laws_szAlarmS.l0 k l t 0), ← left_add _ _ _ h0]
  by_cases hz : left' l.length left < 0
  · rw [if_pos hz, if_pos hz]
  · rw [if_neg hz, if_neg hz]
    have hle := left_ge h0 hz
    rw [budget_loop l (by omega) szA z82 1048578 (fun k t i => laws_szAlarmS.l0 k l t i) ?_ ?_ l.length k 0 _ (by omega) (by omega) (by omega) (left_le h1) (by omega)]
    · simp
    · intro k i left hk hi hi' hl0 hl1
      have hm := hl.2 _ (rdMA_mem l i hi hi')
      simp only [laws_szAlarmS.l0]
      rw [if_pos hi', if_pos hi, laws_szAlarm_eq _ _ _ _ hm.1 hm.2.2.2 _ hl0 hl1 _ (by omega)]
      rfl
    · intro k left _
      simp only [laws_szAlarmS.l0]
      rw [if_neg (by omega)]
theorem laws_toAlarmS_eq (l : List S82) (hs : szAs l ≤ 1048576) (k : Nat) (hk : 2200000 < k) : laws_toAlarmS.f k l = some (alarmsOf l) := by
  have hl := len_le_szAs l
  unfold laws_toAlarmS.f
  rw [if_pos (by omega), if_pos (by omega)]
  have h := fill_loop l (by omega) alarmOf z82 1048578 (fun k out i => laws_toAlarmS.l0 k l out i) ?_ ?_ k z56 (by omega)
  · exact h
  · intro k i out hk hi hi' ho
    have hm := mem_szAs l _ (rdMA_mem l i hi hi')
    have hm2 := len_le_szL (rd_T82 l i).f0
    unfold szA at hm
    simp only [laws_toAlarmS.l0]
    rw [if_pos hi', if_pos hi, laws_toAlarm_eq _ _ _ _ (by omega) _ (by omega)]
    simp only [Option.bind_some]
    rw [if_pos (by omega)]
    rfl
  · intro k out _
    simp only [laws_toAlarmS.l0]
    rw [if_neg (by omega)]
theorem laws_eqAlarmS_refl (l : List S56) (hl : OkAs l) (k : Nat) (hk : 2200000 < k) : laws_eqAlarmS.f k l l = some true := by
  have hl1 := hl.1
  unfold laws_eqAlarmS.f
  rw [if_pos rfl]
  rw [all_loop (n := l.length) (by omega) 1048577 (fun _ => true) (fun k i => laws_eqAlarmS.l0 k l l i) (some true) ?_ ?_ l.length k 0 (by omega) (by omega) (by omega) (by omega)]
  · rw [allFrom_true (fun _ => rfl)]; rfl
  · intro k i hk h0 h1
    have hm := (hl.2 _ (rdA_mem l i h0 h1)).1
    simp only [laws_eqAlarmS.l0]
    rw [if_pos h1, if_pos h0, if_pos h1, laws_eqAlarm_refl _ _ _ _ (by omega) _ (by omega)]
    rfl
  · intro k _
    simp only [laws_eqAlarmS.l0]
    rw [if_neg (by omega)]
theorem laws_szChain_eq (f : Int) (l : List S82) (hl : WfAs l) (left : Int) (h0 : 0 ≤ left) (h1 : left ≤ 1048576) (k : Nat) (hk : 2200000 < k) :
    laws_szChain.f k f l left = some (left' (szAs l) left) := by
  unfold laws_szChain.f
  rw [laws_szAlarmS_eq l hl left h0 h1 k hk]
  simp only [Option.bind_some]
  by_cases hz : left' (szAs l) left < 0
  · rw [if_pos hz, left_neg_one h0 hz]
  · rw [if_neg hz]
theorem laws_toChain_eq (f : Int) (l : List S82) (hs : szAs l ≤ 1048576) (k : Nat) (hk : 2200000 < k) : laws_toChain.f k f l = some (f, alarmsOf l) := by
  unfold laws_toChain.f
  rw [laws_toAlarmS_eq l hs k hk]; rfl
theorem laws_eqChain_refl (f : Int) (l : List S56) (hl : OkAs l) (k : Nat) (hk : 2200000 < k) : laws_eqChain.f k f l f l = some true := by
  unfold laws_eqChain.f
  rw [laws_eqAlarmS_refl l hl k hk]
  simp

/-! ### ChainsS -/
def WfC1 (x : S24) : Prop := (Lit.int .i64 x.f0).wf = true ∧ WfAs x.f1
def WfCs (l : List S24) : Prop := l.length ≤ 9223372036854775807 ∧ ∀ x ∈ l, WfC1 x
def szC (x : S24) : Nat := szAs x.f1
def szCs (l : List S24) : Nat := l.length + (l.map szC).sum
def chainOf (x : S24) : S28 := ⟨x.f0, alarmsOf x.f1⟩
def chainsOf (l : List S24) : List S28 := l.map chainOf
def OkCs (l : List S28) : Prop := l.length ≤ 1048576 ∧ ∀ a ∈ l, OkAs a.f1
theorem len_le_szCs (l : List S24) : l.length ≤ szCs l := by unfold szCs; omega
theorem mem_szCs (l : List S24) (x : S24) (hx : x ∈ l) : szC x ≤ szCs l := by
  have := sum_mem szC l x hx
  unfold szCs
  omega
theorem okCs_of (l : List S24) (h : szCs l ≤ 1048576) : OkCs (chainsOf l) := by
  refine ⟨?_, fun a ha => ?_⟩
  · have := len_le_szCs l
    simp [chainsOf]; omega
  · obtain ⟨x, hx, rfl⟩ := List.mem_map.1 ha
    have := mem_szCs l x hx
    exact okAs_of x.f1 (by unfold szC at this; omega)
theorem rdMC_mem (l : List S24) (i : Int) (h0 : 0 ≤ i) (h1 : i < (l.length : Int)) : rd_T24 l i ∈ l := by
  unfold rd_T24
  rw [List.getD_eq_getElem?_getD, List.getElem?_eq_getElem (by omega)]
  exact List.getElem_mem (by omega)
theorem rdC_mem (l : List S28) (i : Int) (h0 : 0 ≤ i) (h1 : i < (l.length : Int)) : rd_T28 l i ∈ l := by
  unfold rd_T28
  rw [List.getD_eq_getElem?_getD, List.getElem?_eq_getElem (by omega)]
  exact List.getElem_mem (by omega)
theorem laws_szChainS_eq (l : List S24) (hl : WfCs l) (left : Int) (h0 : 0 ≤ left) (h1 : left ≤ 1048576) (k : Nat) (hk : 3300000 < k) :
    laws_szChainS.f k l left = some (left' (szCs l) left) := by
  unfold laws_szChainS.f szCs
  rw [left_of_wrap (n := l.length) hl.1 h0 h1 (fun t => laws_szChainS.l0 k l t 0), ← left_add _ _ _ h0]
  by_cases hz : left' l.length left < 0
  · rw [if_pos hz, if_pos hz]
  · rw [if_neg hz, if_neg hz]
    have hle := left_ge h0 hz
    rw [budget_loop l (by omega) szC z24 2200001 (fun k t i => laws_szChainS.l0 k l t i) ?_ ?_ l.length k 0 _ (by omega) (by omega) (by omega) (left_le h1) (by omega)]
    · simp
    · intro k i left hk hi hi' hl0 hl1
      have hm := hl.2 _ (rdMC_mem l i hi hi')
      simp only [laws_szChainS.l0]
      rw [if_pos hi', if_pos hi, laws_szChain_eq _ _ hm.2 _ hl0 hl1 _ (by omega)]
      rfl
    · intro k left _
      simp only [laws_szChainS.l0]
      rw [if_neg (by omega)]
theorem laws_toChainS_eq (l : List S24) (hs : szCs l ≤ 1048576) (k : Nat) (hk : 3300000 < k) : laws_toChainS.f k l = some (chainsOf l) := by
  have hl := len_le_szCs l
  unfold laws_toChainS.f
  rw [if_pos (by omega), if_pos (by omega)]
  have h := fill_loop l (by omega) chainOf z24 2200001 (fun k out i => laws_toChainS.l0 k l out i) ?_ ?_ k z28 (by omega)
  · exact h
  · intro k i out hk hi hi' ho
    have hm := mem_szCs l _ (rdMC_mem l i hi hi')
    unfold szC at hm
    simp only [laws_toChainS.l0]
    rw [if_pos hi', if_pos hi, laws_toChain_eq _ _ (by omega) _ (by omega)]
    simp only [Option.bind_some]
    rw [if_pos (by omega)]
    rfl
  · intro k out _
    simp only [laws_toChainS.l0]
    rw [if_neg (by omega)]
theorem laws_eqChainS_refl (l : List S28) (hl : OkCs l) (k : Nat) (hk : 3300000 < k) : laws_eqChainS.f k l l = some true := by
  have hl1 := hl.1
  unfold laws_eqChainS.f
  rw [if_pos rfl]
  rw [all_loop (n := l.length) (by omega) 2200001 (fun _ => true) (fun k i => laws_eqChainS.l0 k l l i) (some true) ?_ ?_ l.length k 0 (by omega) (by omega) (by omega) (by omega)]
  · rw [allFrom_true (fun _ => rfl)]; rfl
  · intro k i hk h0 h1
    have hm := hl.2 _ (rdC_mem l i h0 h1)
    simp only [laws_eqChainS.l0]
    rw [if_pos h1, if_pos h0, if_pos h1, laws_eqChain_refl _ _ hm _ (by omega)]
    rfl
  · intro k _
    simp only [laws_eqChainS.l0]
    rw [if_neg (by omega)]
theorem laws_szPart_eq (f g : Int) (l : List S24) (hl : WfCs l) (left : Int) (h0 : 0 ≤ left) (h1 : left ≤ 1048576) (k : Nat) (hk : 3300000 < k) :
    laws_szPart.f k f g l left = some (left' (szCs l) left) := by
  unfold laws_szPart.f
  rw [laws_szChainS_eq l hl left h0 h1 k hk]
  simp only [Option.bind_some]
  by_cases hz : left' (szCs l) left < 0
  · rw [if_pos hz, left_neg_one h0 hz]
  · rw [if_neg hz]
theorem laws_toPart_eq (f g : Int) (l : List S24) (hs : szCs l ≤ 1048576) (k : Nat) (hk : 3300000 < k) : laws_toPart.f k f g l = some (f, g, chainsOf l) := by
  unfold laws_toPart.f
  rw [laws_toChainS_eq l hs k hk]; rfl
theorem laws_eqPart_refl (f g : Int) (l : List S28) (hl : OkCs l) (k : Nat) (hk : 3300000 < k) : laws_eqPart.f k f g l f g l = some true := by
  unfold laws_eqPart.f
  rw [laws_eqChainS_refl l hl k hk]
  simp

/-! ### SameSet -/
def labEq (x y : S105) : Bool := (x.f0.toList == y.f0.toList) && (x.f1.toList == y.f1.toList)
def sameB (a b : List S105) (i : Int) : Bool := labEq (rd_T105 a i) (rd_T105 b i)
def sameSet (a b : List S105) : Bool := decide (a.length = b.length) && allFrom (sameB a b) a.length 0
theorem same_round (a b : List S105) (i : Int) (x : Option Bool) :
    (if (!((((rd_T105 a i).f0).toList) == (((rd_T105 b i).f0).toList)) || (!((((rd_T105 a i).f1).toList) == (((rd_T105 b i).f1).toList)))) = true then (some false) else x) = if sameB a b i = true then x else some false := by
  unfold sameB labEq
  cases ((rd_T105 a i).f0.toList == (rd_T105 b i).f0.toList) <;> cases ((rd_T105 a i).f1.toList == (rd_T105 b i).f1.toList) <;> simp
theorem spec_SameSet_eq (a b : List S105) (ha : a.length ≤ 140737488351232) (k : Nat) (hk : a.length < k) : spec_SameSet.f k a b = some (sameSet a b) := by
  unfold spec_SameSet.f sameSet
  by_cases h : a.length = b.length
  · rw [if_pos (by omega), decide_eq_true h, Bool.true_and]
    rw [all_loop (n := a.length) ha 0 (sameB a b) (fun k i => spec_SameSet.l0 k a b i) (some true) ?_ ?_ a.length k 0 (by omega) (by omega) (by omega) (by omega), bool_of_if]
    · intro k i _ h0 h1
      simp only [spec_SameSet.l0]
      rw [if_pos h1, if_pos h0, if_pos (by omega), same_round]
    · intro k _
      simp only [spec_SameSet.l0]
      rw [if_neg (by omega)]
  · rw [if_neg (by omega), decide_eq_false h]; rfl
theorem impl_SameSet_eq (a b : List S105) (ha : a.length ≤ 140737488351232) (k : Nat) (hk : a.length < k) : impl_SameSet.f k a b = some (sameSet a b) := by
  unfold impl_SameSet.f sameSet
  by_cases h : a.length = b.length
  · rw [if_pos (by omega), decide_eq_true h, Bool.true_and]
    rw [all_loop (n := a.length) ha 0 (sameB a b) (fun k i => impl_SameSet.l0 k a b a.length i) (some true) ?_ ?_ a.length k 0 (by omega) (by omega) (by omega) (by omega), bool_of_if]
    · intro k i _ h0 h1
      simp only [impl_SameSet.l0]
      rw [if_pos h1, if_pos h0, if_pos h1, if_pos (by omega), same_round]
    · intro k _
      simp only [impl_SameSet.l0]
      rw [if_neg (by omega)]
  · rw [if_neg (by omega), decide_eq_false h]; rfl

/-! ### SameAlarm -/
def sameAlarm (l : List S105) (s e : Int) (n : ByteArray) (l' : List S105) (s' e' : Int) (n' : ByteArray) : Bool := sameSet l l' && (decide (s = s') && (decide (e = e') && (n.toList == n'.toList)))
theorem spec_SameAlarm_eq (l : List S105) (s e : Int) (n : ByteArray) (l' : List S105) (s' e' : Int) (n' : ByteArray) (hl : l.length ≤ 140737488351232) (k : Nat) (hk : l.length < k) : spec_SameAlarm.f k l s e n l' s' e' n' = some (sameAlarm l s e n l' s' e' n') := by
  unfold spec_SameAlarm.f sameAlarm
  rw [spec_SameSet_eq l l' hl k hk]
  cases sameSet l l' <;> by_cases h1 : s = s' <;> by_cases h2 : e = e' <;> simp [h1, h2]
theorem impl_SameAlarm_eq (l : List S105) (s e : Int) (n : ByteArray) (l' : List S105) (s' e' : Int) (n' : ByteArray) (hl : l.length ≤ 140737488351232) (k : Nat) (hk : l.length < k) : impl_SameAlarm.f k l s e n l' s' e' n' = some (sameAlarm l s e n l' s' e' n') := by
  unfold impl_SameAlarm.f sameAlarm
  rw [impl_SameSet_eq l l' hl k hk]
  cases sameSet l l' <;> by_cases h1 : s = s' <;> by_cases h2 : e = e' <;> simp [h1, h2]

/-! ### SameChain -/
def sameAlB (a b : List S56) (i : Int) : Bool := sameAlarm (rd_T56 a i).f0 (rd_T56 a i).f1 (rd_T56 a i).f2 (rd_T56 a i).f3 (rd_T56 b i).f0 (rd_T56 b i).f1 (rd_T56 b i).f2 (rd_T56 b i).f3
def sameAlarms (a b : List S56) : Bool := decide (a.length = b.length) && allFrom (sameAlB a b) a.length 0
theorem spec_l4Same_eq (a b : List S56) (ha : OkAs a) (k : Nat) (hk : 2200000 < k) : spec_l4Same.f k a b = some (sameAlarms a b) := by
  have ha1 := ha.1
  unfold spec_l4Same.f sameAlarms
  by_cases h : a.length = b.length
  · rw [if_pos (by omega), decide_eq_true h, Bool.true_and]
    rw [all_loop (n := a.length) (by omega) 1048577 (sameAlB a b) (fun k i => spec_l4Same.l0 k a b i) (some true) ?_ ?_ a.length k 0 (by omega) (by omega) (by omega) (by omega), bool_of_if]
    · intro k i hk h0 h1
      have hm := (ha.2 _ (rdA_mem a i h0 h1)).1
      simp only [spec_l4Same.l0]
      rw [if_pos h1, if_pos h0, if_pos (by omega), spec_SameAlarm_eq _ _ _ _ _ _ _ _ (by omega) _ (by omega)]
      rfl
    · intro k _
      simp only [spec_l4Same.l0]
      rw [if_neg (by omega)]
  · rw [if_neg (by omega), decide_eq_false h]; rfl
theorem impl_sameAlarms_eq (a b : List S56) (ha : OkAs a) (k : Nat) (hk : 2200000 < k) : impl_sameAlarms.f k a b = some (sameAlarms a b) := by
  have ha1 := ha.1
  unfold impl_sameAlarms.f sameAlarms
  by_cases h : a.length = b.length
  · rw [if_pos (by omega), decide_eq_true h, Bool.true_and]
    rw [all_loop (n := a.length) (by omega) 1048577 (sameAlB a b) (fun k i => impl_sameAlarms.l0 k a b a.length i) (some true) ?_ ?_ a.length k 0 (by omega) (by omega) (by omega) (by omega), bool_of_if]
    · intro k i hk h0 h1
      have hm := (ha.2 _ (rdA_mem a i h0 h1)).1
      simp only [impl_sameAlarms.l0]
      rw [if_pos h1, if_pos h0, if_pos h1, if_pos (by omega), impl_SameAlarm_eq _ _ _ _ _ _ _ _ (by omega) _ (by omega)]
      rfl
    · intro k _
      simp only [impl_sameAlarms.l0]
      rw [if_neg (by omega)]
  · rw [if_neg (by omega), decide_eq_false h]; rfl
def sameChain (f : Int) (a : List S56) (g : Int) (b : List S56) : Bool := decide (f = g) && sameAlarms a b
theorem spec_SameChain_eq (f : Int) (a : List S56) (g : Int) (b : List S56) (ha : OkAs a) (k : Nat) (hk : 2200000 < k) : spec_SameChain.f k f a g b = some (sameChain f a g b) := by
  unfold spec_SameChain.f sameChain
  rw [spec_l4Same_eq a b ha k hk]
  by_cases h : f = g <;> simp [h]
theorem impl_SameChain_eq (f : Int) (a : List S56) (g : Int) (b : List S56) (ha : OkAs a) (k : Nat) (hk : 2200000 < k) : impl_SameChain.f k f a g b = some (sameChain f a g b) := by
  unfold impl_SameChain.f sameChain
  rw [impl_sameAlarms_eq a b ha k hk]
  by_cases h : f = g <;> simp [h]

/-! ### SamePart -/
def sameChB (a b : List S28) (i : Int) : Bool := sameChain (rd_T28 a i).f0 (rd_T28 a i).f1 (rd_T28 b i).f0 (rd_T28 b i).f1
def samePart (h v : Int) (a : List S28) (h' v' : Int) (b : List S28) : Bool := decide (h = h') && (decide (v = v') && (decide (a.length = b.length) && allFrom (sameChB a b) a.length 0))
theorem spec_SamePart_eq (h v : Int) (a : List S28) (h' v' : Int) (b : List S28) (ha : OkCs a) (k : Nat) (hk : 3400000 < k) : spec_SamePart.f k h v a h' v' b = some (samePart h v a h' v' b) := by
  have ha1 := ha.1
  obtain ⟨k, rfl⟩ : ∃ k', k = k' + 1 := ⟨k - 1, by omega⟩
  unfold spec_SamePart.f samePart
  by_cases e1 : h = h'
  · by_cases e2 : v = v'
    · by_cases e3 : a.length = b.length
      · rw [if_pos e1, if_pos e2, decide_eq_true e1, decide_eq_true e2, decide_eq_true e3]
        simp only [spec_SamePart.j0, e3, bne_self_eq_false, Bool.false_eq_true, if_false, Bool.true_and]
        rw [← e3]
        rw [all_loop (n := a.length) (by omega) 2200001 (sameChB a b) (fun k i => spec_SamePart.l0 k i h v a h' v' b) (some true) ?_ ?_ a.length k 0 (by omega) (by omega) (by omega) (by omega), bool_of_if]
        · intro k i hk h0 h1
          have hm := ha.2 _ (rdC_mem a i h0 h1)
          simp only [spec_SamePart.l0]
          rw [if_pos h1, if_pos h0, if_pos (by omega), spec_SameChain_eq _ _ _ _ hm _ (by omega)]
          rfl
        · intro k _
          simp only [spec_SamePart.l0]
          rw [if_neg (by omega)]
      · have e3' : ((a.length : Int) != (b.length : Int)) = true := by rw [bne_iff_ne]; omega
        rw [if_pos e1, if_pos e2, decide_eq_false e3, e3']
        simp [spec_SamePart.j0]
    · rw [if_pos e1, if_neg e2, decide_eq_false e2]
      simp [spec_SamePart.j0]
  · rw [if_neg e1, decide_eq_false e1]
    simp [spec_SamePart.j0]
theorem impl_SamePart_eq (h v : Int) (a : List S28) (h' v' : Int) (b : List S28) (ha : OkCs a) (k : Nat) (hk : 3400000 < k) : impl_SamePart.f k h v a h' v' b = some (samePart h v a h' v' b) := by
  have ha1 := ha.1
  obtain ⟨k, rfl⟩ : ∃ k', k = k' + 1 := ⟨k - 1, by omega⟩
  unfold impl_SamePart.f samePart
  by_cases e1 : h = h'
  · by_cases e2 : v = v'
    · by_cases e3 : a.length = b.length
      · rw [if_pos e1, if_pos e2, decide_eq_true e1, decide_eq_true e2, decide_eq_true e3]
        simp only [impl_SamePart.j0, e3, bne_self_eq_false, Bool.false_eq_true, if_false, Bool.true_and]
        rw [← e3]
        rw [all_loop (n := a.length) (by omega) 2200001 (sameChB a b) (fun k i => impl_SamePart.l0 k a.length i h v a h' v' b) (some true) ?_ ?_ a.length k 0 (by omega) (by omega) (by omega) (by omega), bool_of_if]
        · intro k i hk h0 h1
          have hm := ha.2 _ (rdC_mem a i h0 h1)
          simp only [impl_SamePart.l0]
          rw [if_pos h1, if_pos h0, if_pos h1, if_pos (by omega), impl_SameChain_eq _ _ _ _ hm _ (by omega)]
          rfl
        · intro k _
          simp only [impl_SamePart.l0]
          rw [if_neg (by omega)]
      · have e3' : ((a.length : Int) != (b.length : Int)) = true := by rw [bne_iff_ne]; omega
        rw [if_pos e1, if_pos e2, decide_eq_false e3, e3']
        simp [impl_SamePart.j0]
    · rw [if_pos e1, if_neg e2, decide_eq_false e2]
      simp [impl_SamePart.j0]
  · rw [if_neg e1, decide_eq_false e1]
    simp [impl_SamePart.j0]

theorem FnExactSamePart (aH aV : Int) (aL : List S24) (bH bV : Int) (bL : List S24) (ha : (Lit.int .i64 aH).wf = true ∧ (Lit.int .i64 aV).wf = true ∧ WfCs aL) (hb : (Lit.int .i64 bH).wf = true ∧ (Lit.int .i64 bV).wf = true ∧ WfCs bL) : ∃ k, laws_FnExactSamePart.f k aH aV aL bH bV bL = some true := by
  obtain ⟨m, hm⟩ : ∃ m : Nat, 16777216 < m := ⟨16777217, by omega⟩
  have hm1 : 16777216 < m + 1 := by omega
  have hm2 : 16777216 < m + 2 := by omega
  have hm11 : 16777216 < m + 1 + 1 := by omega
  refine ⟨m + 2, ?_⟩
  unfold laws_FnExactSamePart.f
  obtain ⟨left1, hleft1⟩ : ∃ x, x = left' (szCs aL) 1048576 := ⟨_, rfl⟩
  rw [laws_szPart_eq aH aV aL ha.2.2 _ (by omega) (by omega) _ (by omega), ← hleft1]
  simp only [Option.bind_some]
  by_cases hz1 : left1 < 0
  · rw [if_pos hz1]
  rw [if_neg hz1]
  have hb1 : ((szCs aL : Nat) : Int) ≤ 1048576 := left_ge (by omega) (by rw [← hleft1]; exact hz1)
  have hc1 : left1 ≤ 1048576 := by rw [hleft1]; exact left_le (by omega)
  obtain ⟨left2, hleft2⟩ : ∃ x, x = left' (szCs bL) left1 := ⟨_, rfl⟩
  rw [laws_szPart_eq bH bV bL hb.2.2 _ (by omega) (by omega) _ (by omega), ← hleft2]
  simp only [Option.bind_some]
  by_cases hz2 : left2 < 0
  · rw [if_pos hz2]
  rw [if_neg hz2]
  have hb2 : ((szCs bL : Nat) : Int) ≤ left1 := left_ge (by omega) (by rw [← hleft2]; exact hz2)
  have hc2 : left2 ≤ 1048576 := by rw [hleft2]; exact left_le (by omega)
  clear hleft1
  clear hleft2
  have la := len_le_szCs aL
  have qa := okCs_of aL (by omega)
  have ta : ∀ k, 16777216 < k → laws_toPart.f k aH aV aL = some (aH, aV, chainsOf aL) := fun k hk => laws_toPart_eq aH aV aL (by omega) k (by omega)
  have ea : ∀ k, 16777216 < k → laws_eqPart.f k aH aV (chainsOf aL) aH aV (chainsOf aL) = some true := fun k hk => laws_eqPart_refl _ _ _ qa k (by omega)
  have lb := len_le_szCs bL
  have qb := okCs_of bL (by omega)
  have tb : ∀ k, 16777216 < k → laws_toPart.f k bH bV bL = some (bH, bV, chainsOf bL) := fun k hk => laws_toPart_eq bH bV bL (by omega) k (by omega)
  have eb : ∀ k, 16777216 < k → laws_eqPart.f k bH bV (chainsOf bL) bH bV (chainsOf bL) = some true := fun k hk => laws_eqPart_refl _ _ _ qb k (by omega)
  have sF : ∀ k, 16777216 < k → spec_SamePart.f k aH aV (chainsOf aL) bH bV (chainsOf bL) = some (samePart aH aV (chainsOf aL) bH bV (chainsOf bL)) := fun k hk => spec_SamePart_eq _ _ _ _ _ _ qa k (by omega)
  have iF : ∀ k, 16777216 < k → impl_SamePart.f k aH aV (chainsOf aL) bH bV (chainsOf bL) = some (samePart aH aV (chainsOf aL) bH bV (chainsOf bL)) := fun k hk => impl_SamePart_eq _ _ _ _ _ _ qa k (by omega)
  simp only [sF, iF, ta, tb, ea, eb, hm, hm1, hm2, hm11, Option.bind_some, bne_self_eq_false, beq_self_eq_true, if_true, Bool.false_eq_true, if_false, Bool.not_true, Bool.not_false]

end Go.Proofs.Ytglefglknlcojac.Pure
