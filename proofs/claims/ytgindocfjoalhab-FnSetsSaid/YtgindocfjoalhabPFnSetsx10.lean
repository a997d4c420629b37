/- What the Go functions that FnSets reaches compute, as Lean functions, and that the machine's calls do so; no conditions. -/
import Derived.Test.YtgindocfjoalhabPFnSetsx0
import Derived.Test.YtgindocfjoalhabPFnSetsx2
import Derived.Test.YtgindocfjoalhabPFnSetsx3
import Derived.Test.YtgindocfjoalhabPFnSetsx4
import Derived.Test.YtgindocfjoalhabPFnSetsx5
import Derived.Test.YtgindocfjoalhabPFnSetsx6
import Derived.Test.YtgindocfjoalhabPFnSetsx7
import Derived.Test.YtgindocfjoalhabPFnSetsx8
import Derived.Test.YtgindocfjoalhabPFnSetsx9
namespace Go.Proofs.Ytgindocfjoalhab.PFnSets
open Go.RowKit Go.Proofs.YtgindocfjoalhabW.PrintWords Go.Proofs.YtgindocfjoalhabW.PrintLast Go.Proofs.YtgindocfjoalhabW.PrintMore
attribute [local go_sem] max2_int min2_int max_two min_two max_three min_three max_four min_four   -- for this text's walks alone
set_option linter.unusedVariables false
set_option linter.unusedSimpArgs false
noncomputable section

/-! ### laws_FnSets: function 7 -/
mutual
def laws_FnSets.j0 : Nat → List (S86) → List (S86) → Bool → Bool → Option (Bool)
 | 0, _, _, _, _ => none
 | k + 1, x3, x4, x5, x104 => if x104 = true then (some false) else (if x5 = true then ((impl_SortSet.f k x4).bind fun bt362 => (laws_FnSets.l0 k x3 x4 bt362.1 bt362.2 0)) else (if (x4.length : Int) = 0 then ((impl_SetOk.f k x3).bind fun t361 => (some (!t361))) else (some false)))
def laws_FnSets.l0 : Nat → List (S86) → List (S86) → List (S86) → Bool → Int → Option (Bool)
 | 0, _, _, _, _, _ => none
 | k + 1, x3, x4, x18, x19, x20 => if x20 < (x3.length : Int) then (if 0 ≤ x20 then ((impl_ValOf.f k x4 ((rd_T86 x3 x20).f0)).bind fun bt367 => (if bt367.2 = true then (if bt367.1.toList = ((rd_T86 x3 x20).f1).toList then (laws_FnSets.l0 k x3 x4 x18 x19 (wrap64 (x20 + 1))) else (some false)) else (some false))) else (none)) else ((impl_SetOk.f k x4).bind fun t370 => (if t370 = true then (if (x4.length : Int) = (x3.length : Int) then (if x19 = true then ((impl_SameSet.f k x18 x4).bind fun t371 => (some t371)) else (some false)) else (some false)) else (some false)))
end
def laws_FnSets.f (k : Nat) (l0 : List Int) : Option (Bool) := (laws_big.f l0).bind fun t322 => (if t322 = true then (some true) else ((spec_DrawSortSet.f k l0).bind fun t323 => ((impl_SortSet.f k t323).bind fun bt326 => ((spec_SortSet.f k t323).bind fun bt330 => ((spec_DrawSetOk.f k l0).bind fun t334 => ((spec_DrawLabelOk.f k l0).bind fun bt337 => ((spec_DrawSameSet.f k l0).bind fun bt340 => ((spec_DrawValOf.f k l0).bind fun bt346 => ((impl_ValOf.f k bt346.1 bt346.2).bind fun bt350 => ((spec_ValOf.f k bt346.1 bt346.2).bind fun bt352 => (if (bt326.2 != bt330.2) = true then (laws_FnSets.j0 k t323 bt326.1 bt326.2 true) else ((impl_SameSet.f k bt326.1 bt330.1).bind fun t354 => (if t354 = true then ((impl_SetOk.f k t334).bind fun t355 => ((spec_SetOk.f k t334).bind fun t356 => (if (t355 != t356) = true then (laws_FnSets.j0 k t323 bt326.1 bt326.2 true) else ((impl_LabelOk.f k bt337.1 bt337.2).bind fun t357 => ((spec_LabelOk.f k bt337.1 bt337.2).bind fun t358 => (if (t357 != t358) = true then (laws_FnSets.j0 k t323 bt326.1 bt326.2 true) else ((impl_SameSet.f k bt340.1 bt340.2).bind fun t359 => ((spec_SameSet.f k bt340.1 bt340.2).bind fun t360 => (if (t359 != t360) = true then (laws_FnSets.j0 k t323 bt326.1 bt326.2 true) else (if bt350.1.toList = bt352.1.toList then (laws_FnSets.j0 k t323 bt326.1 bt326.2 (bt350.2 != bt352.2)) else (laws_FnSets.j0 k t323 bt326.1 bt326.2 true))))))))))) else (laws_FnSets.j0 k t323 bt326.1 bt326.2 true))))))))))))))
theorem laws_FnSets.mono_l : ∀ k, (∀ y0 y1 y2 y3, LeO (laws_FnSets.j0 k y0 y1 y2 y3) (laws_FnSets.j0 (k + 1) y0 y1 y2 y3)) ∧ (∀ y0 y1 y2 y3 y4, LeO (laws_FnSets.l0 k y0 y1 y2 y3 y4) (laws_FnSets.l0 (k + 1) y0 y1 y2 y3 y4))
 | 0 => ⟨fun _ _ _ _ r h => by simp [laws_FnSets.j0] at h, fun _ _ _ _ _ r h => by simp [laws_FnSets.l0] at h⟩
 | k + 1 => by
  obtain ⟨ih0, ih1⟩ := laws_FnSets.mono_l k
  refine ⟨?_, ?_⟩
  ·intro y0 y1 y2 y3
   unfold laws_FnSets.j0
   repeat' first
   | (with_reducible exact ih0 _ _ _ _)
   | (with_reducible exact ih1 _ _ _ _ _)
   | (with_reducible exact impl_LabelOk.mono _ _ _)
   | (with_reducible exact impl_SameSet.mono _ _ _)
   | (with_reducible exact impl_SetOk.mono _ _)
   | (with_reducible exact impl_SortSet.mono _ _)
   | (with_reducible exact impl_ValOf.mono _ _ _)
   | (with_reducible exact spec_DrawLabelOk.mono _ _)
   | (with_reducible exact spec_DrawSameSet.mono _ _)
   | (with_reducible exact spec_DrawSetOk.mono _ _)
   | (with_reducible exact spec_DrawSortSet.mono _ _)
   | (with_reducible exact spec_DrawValOf.mono _ _)
   | (with_reducible exact spec_LabelOk.mono _ _ _)
   | (with_reducible exact spec_SameSet.mono _ _ _)
   | (with_reducible exact spec_SetOk.mono _ _)
   | (with_reducible exact spec_SortSet.mono _ _)
   | (with_reducible exact spec_ValOf.mono _ _ _)
   | (with_reducible exact LeO.refl _)
   | (with_reducible exact LeO.none _)
   | (with_reducible refine LeO.ite ?_ ?_)
   | (with_reducible refine LeO.bind ?_ (fun _ => ?_))
   | exact ih0 _ _ _ _
   | exact ih1 _ _ _ _ _
   | exact impl_LabelOk.mono _ _ _
   | exact impl_SameSet.mono _ _ _
   | exact impl_SetOk.mono _ _
   | exact impl_SortSet.mono _ _
   | exact impl_ValOf.mono _ _ _
   | exact spec_DrawLabelOk.mono _ _
   | exact spec_DrawSameSet.mono _ _
   | exact spec_DrawSetOk.mono _ _
   | exact spec_DrawSortSet.mono _ _
   | exact spec_DrawValOf.mono _ _
   | exact spec_LabelOk.mono _ _ _
   | exact spec_SameSet.mono _ _ _
   | exact spec_SetOk.mono _ _
   | exact spec_SortSet.mono _ _
   | exact spec_ValOf.mono _ _ _
   | exact LeO.none _
   | refine LeO.ite ?_ ?_
   | refine LeO.bind ?_ (fun _ => ?_)
  ·intro y0 y1 y2 y3 y4
   unfold laws_FnSets.l0
   repeat' first
   | (with_reducible exact ih0 _ _ _ _)
   | (with_reducible exact ih1 _ _ _ _ _)
   | (with_reducible exact impl_LabelOk.mono _ _ _)
   | (with_reducible exact impl_SameSet.mono _ _ _)
   | (with_reducible exact impl_SetOk.mono _ _)
   | (with_reducible exact impl_SortSet.mono _ _)
   | (with_reducible exact impl_ValOf.mono _ _ _)
   | (with_reducible exact spec_DrawLabelOk.mono _ _)
   | (with_reducible exact spec_DrawSameSet.mono _ _)
   | (with_reducible exact spec_DrawSetOk.mono _ _)
   | (with_reducible exact spec_DrawSortSet.mono _ _)
   | (with_reducible exact spec_DrawValOf.mono _ _)
   | (with_reducible exact spec_LabelOk.mono _ _ _)
   | (with_reducible exact spec_SameSet.mono _ _ _)
   | (with_reducible exact spec_SetOk.mono _ _)
   | (with_reducible exact spec_SortSet.mono _ _)
   | (with_reducible exact spec_ValOf.mono _ _ _)
   | (with_reducible exact LeO.refl _)
   | (with_reducible exact LeO.none _)
   | (with_reducible refine LeO.ite ?_ ?_)
   | (with_reducible refine LeO.bind ?_ (fun _ => ?_))
   | exact ih0 _ _ _ _
   | exact ih1 _ _ _ _ _
   | exact impl_LabelOk.mono _ _ _
   | exact impl_SameSet.mono _ _ _
   | exact impl_SetOk.mono _ _
   | exact impl_SortSet.mono _ _
   | exact impl_ValOf.mono _ _ _
   | exact spec_DrawLabelOk.mono _ _
   | exact spec_DrawSameSet.mono _ _
   | exact spec_DrawSetOk.mono _ _
   | exact spec_DrawSortSet.mono _ _
   | exact spec_DrawValOf.mono _ _
   | exact spec_LabelOk.mono _ _ _
   | exact spec_SameSet.mono _ _ _
   | exact spec_SetOk.mono _ _
   | exact spec_SortSet.mono _ _
   | exact spec_ValOf.mono _ _ _
   | exact LeO.none _
   | refine LeO.ite ?_ ?_
   | refine LeO.bind ?_ (fun _ => ?_)
theorem laws_FnSets.mono : ∀ a0 k, LeO (laws_FnSets.f k a0) (laws_FnSets.f (k + 1) a0) := by
 intro a0 k
 obtain ⟨ih0, ih1⟩ := laws_FnSets.mono_l k
 unfold laws_FnSets.f
 repeat' first
   | (with_reducible exact ih0 _ _ _ _)
   | (with_reducible exact ih1 _ _ _ _ _)
   | (with_reducible exact impl_LabelOk.mono _ _ _)
   | (with_reducible exact impl_SameSet.mono _ _ _)
   | (with_reducible exact impl_SetOk.mono _ _)
   | (with_reducible exact impl_SortSet.mono _ _)
   | (with_reducible exact impl_ValOf.mono _ _ _)
   | (with_reducible exact spec_DrawLabelOk.mono _ _)
   | (with_reducible exact spec_DrawSameSet.mono _ _)
   | (with_reducible exact spec_DrawSetOk.mono _ _)
   | (with_reducible exact spec_DrawSortSet.mono _ _)
   | (with_reducible exact spec_DrawValOf.mono _ _)
   | (with_reducible exact spec_LabelOk.mono _ _ _)
   | (with_reducible exact spec_SameSet.mono _ _ _)
   | (with_reducible exact spec_SetOk.mono _ _)
   | (with_reducible exact spec_SortSet.mono _ _)
   | (with_reducible exact spec_ValOf.mono _ _ _)
   | (with_reducible exact LeO.refl _)
   | (with_reducible exact LeO.none _)
   | (with_reducible refine LeO.ite ?_ ?_)
   | (with_reducible refine LeO.bind ?_ (fun _ => ?_))
   | exact ih0 _ _ _ _
   | exact ih1 _ _ _ _ _
   | exact impl_LabelOk.mono _ _ _
   | exact impl_SameSet.mono _ _ _
   | exact impl_SetOk.mono _ _
   | exact impl_SortSet.mono _ _
   | exact impl_ValOf.mono _ _ _
   | exact spec_DrawLabelOk.mono _ _
   | exact spec_DrawSameSet.mono _ _
   | exact spec_DrawSetOk.mono _ _
   | exact spec_DrawSortSet.mono _ _
   | exact spec_DrawValOf.mono _ _
   | exact spec_LabelOk.mono _ _ _
   | exact spec_SameSet.mono _ _ _
   | exact spec_SetOk.mono _ _
   | exact spec_SortSet.mono _ _
   | exact spec_ValOf.mono _ _ _
   | exact LeO.none _
   | refine LeO.ite ?_ ?_
   | refine LeO.bind ?_ (fun _ => ?_)
def laws_FnSets.T12 : Bool × List (List Nat × List Nat) := (true, [([], []), ([], []), ([0, 1], [0, 1]), ([2], [2]), ([3], [3]), ([3], [3]), ([4, 5, 3, 3], [3, 4, 5]), ([6, 3], [3, 6]), ([3, 7], [3, 7]), ([8, 6], [8]), ([9], [9]), ([10, 9, 9], [9, 10]), ([9], [9]), ([12, 11, 9], [9, 12]), ([11, 13, 9], [9, 11, 13]), ([9, 14], [9, 14]), ([15, 13], [15]), ([16], [16]), ([17, 16, 16], [16, 17]), ([16], [16]), ([19, 18, 16], [16, 19]), ([18, 20, 16], [16, 18, 20]), ([16, 21], [16, 21]), ([22, 20], [22]), ([23], [23]), ([23], [23]), ([24, 25, 23, 23], [23, 24, 25]), ([23], [23]), ([23], [23]), ([27, 28, 26, 23], [23, 27, 28]), ([26, 29, 23], [23, 26, 29]), ([23, 30], [23, 30]), ([31, 29], [31]), ([32], [32]), ([32], [32]), ([33, 34, 32], [32, 33, 34]), ([32, 35], [32, 35]), ([36, 32], [36]), ([37], [37]), ([37], [37]), ([38, 39, 37], [37, 38, 39]), ([37, 40], [37, 40])])
def laws_FnSets.B12 : List Nat := [0, 0, 3, 7, 15, 15, 63, 127, 255, 511, 1023, 2047, 1023, 8191, 16383, 32767, 65535, 131071, 262143, 131071, 1048575, 2097151, 4194303, 8388607, 16777215, 16777215, 67108863, 16777215, 16777215, 536870911, 1073741823, 2147483647, 4294967295, 8589934591, 8589934591, 34359738367, 68719476735, 137438953471, 274877906943, 274877906943, 1099511627775, 2199023255551]
theorem laws_FnSets.tab12 : rtab .any (opsOf Try.f7 12) = laws_FnSets.T12 := by kernel_rfl
theorem laws_FnSets.bits12 : waitsOk laws_FnSets.T12.2 laws_FnSets.B12 = true := by kernel_rfl
set_option maxHeartbeats 8000000 in
set_option maxRecDepth 100000 in
theorem laws_FnSets.calls (k : Nat) (A0 : Option Addr) (c0 : Nat) (l0 : List Int) (r : Bool) (w : World) (hr0 : Kd.C (Kd.int .u8) w A0 l0.length l0) (hc0 : l0.length ≤ c0) (hr_ : Aside0 (r = true)) (h : laws_FnSets.f k l0 = some r) :
  Calls Try.prog 7 #[.slice A0 l0.length c0] w fun e w' => e = .returned (.bool r) ∧ Below w.heap.size w w' := by
 have hu86 := Try.underlying86
 have HR0 := aM hr0
 have HC0 := aM hc0
 clear hr0 hc0
 have HB := aM (Below.refl w.heap.size w)
 have H : ((laws_big.f l0).bind fun t322 => (if t322 = true then (some true) else ((spec_DrawSortSet.f k l0).bind fun t323 => ((impl_SortSet.f k t323).bind fun bt326 => ((spec_SortSet.f k t323).bind fun bt330 => ((spec_DrawSetOk.f k l0).bind fun t334 => ((spec_DrawLabelOk.f k l0).bind fun bt337 => ((spec_DrawSameSet.f k l0).bind fun bt340 => ((spec_DrawValOf.f k l0).bind fun bt346 => ((impl_ValOf.f k bt346.1 bt346.2).bind fun bt350 => ((spec_ValOf.f k bt346.1 bt346.2).bind fun bt352 => (if (bt326.2 != bt330.2) = true then (laws_FnSets.j0 k t323 bt326.1 bt326.2 true) else ((impl_SameSet.f k bt326.1 bt330.1).bind fun t354 => (if t354 = true then ((impl_SetOk.f k t334).bind fun t355 => ((spec_SetOk.f k t334).bind fun t356 => (if (t355 != t356) = true then (laws_FnSets.j0 k t323 bt326.1 bt326.2 true) else ((impl_LabelOk.f k bt337.1 bt337.2).bind fun t357 => ((spec_LabelOk.f k bt337.1 bt337.2).bind fun t358 => (if (t357 != t358) = true then (laws_FnSets.j0 k t323 bt326.1 bt326.2 true) else ((impl_SameSet.f k bt340.1 bt340.2).bind fun t359 => ((spec_SameSet.f k bt340.1 bt340.2).bind fun t360 => (if (t359 != t360) = true then (laws_FnSets.j0 k t323 bt326.1 bt326.2 true) else (if bt350.1.toList = bt352.1.toList then (laws_FnSets.j0 k t323 bt326.1 bt326.2 (bt350.2 != bt352.2)) else (laws_FnSets.j0 k t323 bt326.1 bt326.2 true))))))))))) else (laws_FnSets.j0 k t323 bt326.1 bt326.2 true))))))))))))))) = some r := h
 clear h; replace H := Option.bind_eq_some_iff.mp H; obtain ⟨t322, A20, H⟩ := H; try dsimp only at H
 have A2 := aM A20
 clear A20
 by_cases c3 : t322 = true
 ·subst c3
  have H1 : (some true) = some r := by rw [if_pos rfl] at H; exact H
  clear H
  have H := H1
  clear H1
  obtain rfl := Option.some.inj H
  go_enter Try.func7, Try.ntmps7
  go_wp2_with (first | ((with_reducible refine gate_callee (f := 8) rfl ?_); refine goesL_ (some 24) rfl rfl Try.func8 (by kernel_rfl) rfl #[.slice A0 l0.length c0] rfl (by (try simp only [List.map_toArray, List.map_cons, List.map_nil]); first | done | rfl | (simp only [List.length_drop, List.length_take]; rfl)) ?_; (with_reducible refine (laws_big.calls _ _ l0 true _ ?side1 ?side2 A2.out).mono ?_); (case side1 => repeat (first | exact HR0.out | (with_reducible refine Kd.C_alloc ?_ _) | (with_reducible refine Kd.C_drewN ?_ _) | (with_reducible refine Kd.C_drew ?_))); (case side2 => exact HC0.out); rintro e w' ⟨rfl, ⟨nd, rfl⟩⟩; refine ⟨_, rfl, ?_⟩))
  go_ret
  exact ⟨by first | rfl | (simp [errW_none, errW_some] <;> rfl) | (simp [*, errW_none, errW_some] <;> rfl), by repeat (first | (with_reducible first | exact HB.out | apply aW1 | apply aW2 | apply aW3) | exact HB.out)⟩
 ·replace c3 := Bool.eq_false_iff.mpr c3
  subst c3
  have H1 : ((spec_DrawSortSet.f k l0).bind fun t323 => ((impl_SortSet.f k t323).bind fun bt326 => ((spec_SortSet.f k t323).bind fun bt330 => ((spec_DrawSetOk.f k l0).bind fun t334 => ((spec_DrawLabelOk.f k l0).bind fun bt337 => ((spec_DrawSameSet.f k l0).bind fun bt340 => ((spec_DrawValOf.f k l0).bind fun bt346 => ((impl_ValOf.f k bt346.1 bt346.2).bind fun bt350 => ((spec_ValOf.f k bt346.1 bt346.2).bind fun bt352 => (if (bt326.2 != bt330.2) = true then (laws_FnSets.j0 k t323 bt326.1 bt326.2 true) else ((impl_SameSet.f k bt326.1 bt330.1).bind fun t354 => (if t354 = true then ((impl_SetOk.f k t334).bind fun t355 => ((spec_SetOk.f k t334).bind fun t356 => (if (t355 != t356) = true then (laws_FnSets.j0 k t323 bt326.1 bt326.2 true) else ((impl_LabelOk.f k bt337.1 bt337.2).bind fun t357 => ((spec_LabelOk.f k bt337.1 bt337.2).bind fun t358 => (if (t357 != t358) = true then (laws_FnSets.j0 k t323 bt326.1 bt326.2 true) else ((impl_SameSet.f k bt340.1 bt340.2).bind fun t359 => ((spec_SameSet.f k bt340.1 bt340.2).bind fun t360 => (if (t359 != t360) = true then (laws_FnSets.j0 k t323 bt326.1 bt326.2 true) else (if bt350.1.toList = bt352.1.toList then (laws_FnSets.j0 k t323 bt326.1 bt326.2 (bt350.2 != bt352.2)) else (laws_FnSets.j0 k t323 bt326.1 bt326.2 true))))))))))) else (laws_FnSets.j0 k t323 bt326.1 bt326.2 true))))))))))))) = some r := by rw [if_neg (show ¬ (false = true) by decide)] at H; exact H
  clear H
  have H := H1
  clear H1; replace H := Option.bind_eq_some_iff.mp H; obtain ⟨t323, A40, H⟩ := H; try dsimp only at H
  have A4 := aM A40
  clear A40; replace H := Option.bind_eq_some_iff.mp H
  obtain ⟨⟨t326, t327⟩, A50, H⟩ := H
  try dsimp only at H
  have A5 := aM A50
  clear A50; replace H := Option.bind_eq_some_iff.mp H
  obtain ⟨⟨t330, t331⟩, A60, H⟩ := H
  try dsimp only at H
  have A6 := aM A60
  clear A60; replace H := Option.bind_eq_some_iff.mp H; obtain ⟨t334, A70, H⟩ := H; try dsimp only at H
  have A7 := aM A70
  clear A70; replace H := Option.bind_eq_some_iff.mp H
  obtain ⟨⟨t337, t338⟩, A80, H⟩ := H
  try dsimp only at H
  have A8 := aM A80
  clear A80; replace H := Option.bind_eq_some_iff.mp H
  obtain ⟨⟨t340, t341⟩, A90, H⟩ := H
  try dsimp only at H
  have A9 := aM A90
  clear A90; replace H := Option.bind_eq_some_iff.mp H
  obtain ⟨⟨t346, t347⟩, A100, H⟩ := H
  try dsimp only at H
  have A10 := aM A100
  clear A100; replace H := Option.bind_eq_some_iff.mp H
  obtain ⟨⟨t350, t351⟩, A110, H⟩ := H
  try dsimp only at H
  have A11 := aM A110
  clear A110; replace H := Option.bind_eq_some_iff.mp H
  obtain ⟨⟨t352, t353⟩, A120, H⟩ := H
  try dsimp only at H
  have A12 := aM A120
  clear A120
  have HC13 := aM H
  clear H
  go_enter Try.func7, Try.ntmps7
  go_upto_region 12 with (first | ((with_reducible refine gate_callee (f := 8) rfl ?_); refine goesL_ (some 24) rfl rfl Try.func8 (by kernel_rfl) rfl #[.slice A0 l0.length c0] rfl (by (try simp only [List.map_toArray, List.map_cons, List.map_nil]); first | done | rfl | (simp only [List.length_drop, List.length_take]; rfl)) ?_; (with_reducible refine (laws_big.calls _ _ l0 false _ ?side1 ?side2 A2.out).mono ?_); (case side1 => repeat (first | exact HR0.out | (with_reducible refine Kd.C_alloc ?_ _) | (with_reducible refine Kd.C_drewN ?_ _) | (with_reducible refine Kd.C_drew ?_))); (case side2 => exact HC0.out); rintro e w' ⟨rfl, ⟨nd, rfl⟩⟩; refine ⟨_, rfl, ?_⟩) | ((with_reducible refine gate_callee (f := 69) rfl ?_); refine goesL_ (some 26) rfl rfl Try.func69 (by kernel_rfl) rfl #[.slice A0 l0.length c0] rfl (by (try simp only [List.map_toArray, List.map_cons, List.map_nil]); first | done | rfl | (simp only [List.length_drop, List.length_take]; rfl)) ?_; (with_reducible refine (spec_DrawSortSet.calls k _ _ l0 t323 _ ?side1 ?side2 A4.out).mono ?_); (case side1 => repeat (first | exact HR0.out | (with_reducible refine Kd.C_alloc ?_ _) | (with_reducible refine Kd.C_drewN ?_ _) | (with_reducible refine Kd.C_drew ?_))); (case side2 => exact HC0.out); rintro e w14 ⟨v324, rfl, ho0, hb⟩; refine ⟨_, rfl, ?_⟩; have n0_ := aM (Kd.R_lower ho0 (below_size (by repeat (first | (with_reducible first | exact HB.out | apply aW1 | apply aW2 | apply aW3) | exact HB.out)))); have n1_ := aM (below_step (by repeat (first | (with_reducible first | exact HB.out | apply aW1 | apply aW2 | apply aW3) | exact HB.out)) hb); clear HB; have HO325 := n0_; have HB := n1_; clear n0_ n1_; (try clear hb); (try clear hb2); (try clear hk); (try clear hi); (try clear ho0); obtain ⟨Ao15, co15, eo15⟩ := Kd.R_slice HO325.out; subst eo15) | ((with_reducible refine gate_callee (f := 65) rfl ?_); refine goesL_ (some 29) rfl rfl Try.func65 (by kernel_rfl) rfl #[.slice Ao15 t323.length co15] rfl (by (try simp only [List.map_toArray, List.map_cons, List.map_nil]); first | done | rfl | (simp only [List.length_drop, List.length_take]; rfl)) ?_; (with_reducible refine (impl_SortSet.calls k _ _ t323 t326 t327 _ ?side1 ?side2 A5.out).mono ?_); (case side1 => repeat (first | exact (Kd.R_reads' HO325.out).2.2 | (with_reducible refine Kd.C_alloc ?_ _) | (with_reducible refine Kd.C_drewN ?_ _) | (with_reducible refine Kd.C_drew ?_))); (case side2 => exact (Kd.R_reads' HO325.out).2.1); rintro e w16 ⟨v328, rfl, ho0, hb⟩; refine ⟨_, rfl, ?_⟩; have n0_ := aM (Kd.R_elder' (aR HO325) (Kd.R_base ho0) hb); have n1_ := aM (Kd.R_lower (Kd.R_new' ho0 (Kd.R_lt (aR HO325))) (below_size (by repeat (first | (with_reducible first | exact HB.out | apply aW1 | apply aW2 | apply aW3) | exact HB.out)))); have n2_ := aM (below_step (by repeat (first | (with_reducible first | exact HB.out | apply aW1 | apply aW2 | apply aW3) | exact HB.out)) hb); clear HO325 HB; have HO325 := n0_; have HO329 := n1_; have HB := n2_; clear n0_ n1_ n2_; (try clear hb); (try clear hb2); (try clear hk); (try clear hi); (try clear ho0)) | ((with_reducible refine gate_callee (f := 63) rfl ?_); refine goesL_ (some 34) rfl rfl Try.func63 (by kernel_rfl) rfl #[.slice Ao15 t323.length co15] rfl (by (try simp only [List.map_toArray, List.map_cons, List.map_nil]); first | done | rfl | (simp only [List.length_drop, List.length_take]; rfl)) ?_; (with_reducible refine (spec_SortSet.calls k _ _ t323 t330 t331 _ ?side1 ?side2 A6.out).mono ?_); (case side1 => repeat (first | exact (Kd.R_reads' HO325.out).2.2 | (with_reducible refine Kd.C_alloc ?_ _) | (with_reducible refine Kd.C_drewN ?_ _) | (with_reducible refine Kd.C_drew ?_))); (case side2 => exact (Kd.R_reads' HO325.out).2.1); rintro e w17 ⟨v332, rfl, ho0, hb⟩; refine ⟨_, rfl, ?_⟩; have n0_ := aM (Kd.R_elder' (aR HO325) (Kd.R_base ho0) hb); have n1_ := aM (Kd.R_elder' (aR HO329) (Kd.R_base ho0) hb); have n2_ := aM (Kd.R_lower (Kd.R_new' (Kd.R_new' ho0 (Kd.R_lt (aR HO325))) (Kd.R_lt (aR HO329))) (below_size (by repeat (first | (with_reducible first | exact HB.out | apply aW1 | apply aW2 | apply aW3) | exact HB.out)))); have n3_ := aM (below_step (by repeat (first | (with_reducible first | exact HB.out | apply aW1 | apply aW2 | apply aW3) | exact HB.out)) hb); clear HO325 HO329 HB; have HO325 := n0_; have HO329 := n1_; have HO333 := n2_; have HB := n3_; clear n0_ n1_ n2_ n3_; (try clear hb); (try clear hb2); (try clear hk); (try clear hi); (try clear ho0)) | ((with_reducible refine gate_callee (f := 70) rfl ?_); refine goesL_ (some 38) rfl rfl Try.func70 (by kernel_rfl) rfl #[.slice A0 l0.length c0] rfl (by (try simp only [List.map_toArray, List.map_cons, List.map_nil]); first | done | rfl | (simp only [List.length_drop, List.length_take]; rfl)) ?_; (with_reducible refine (spec_DrawSetOk.calls k _ _ l0 t334 _ ?side1 ?side2 A7.out).mono ?_); (case side1 => repeat (first | exact (Kd.C_below HR0.out HB.out) | (with_reducible refine Kd.C_alloc ?_ _) | (with_reducible refine Kd.C_drewN ?_ _) | (with_reducible refine Kd.C_drew ?_))); (case side2 => exact HC0.out); rintro e w18 ⟨v335, rfl, ho0, hb⟩; refine ⟨_, rfl, ?_⟩; have n0_ := aM (Kd.R_elder' (aR HO325) (Kd.R_base ho0) hb); have n1_ := aM (Kd.R_elder' (aR HO329) (Kd.R_base ho0) hb); have n2_ := aM (Kd.R_elder' (aR HO333) (Kd.R_base ho0) hb); have n3_ := aM (Kd.R_lower (Kd.R_new' (Kd.R_new' (Kd.R_new' ho0 (Kd.R_lt (aR HO325))) (Kd.R_lt (aR HO329))) (Kd.R_lt (aR HO333))) (below_size (by repeat (first | (with_reducible first | exact HB.out | apply aW1 | apply aW2 | apply aW3) | exact HB.out)))); have n4_ := aM (below_step (by repeat (first | (with_reducible first | exact HB.out | apply aW1 | apply aW2 | apply aW3) | exact HB.out)) hb); clear HO325 HO329 HO333 HB; have HO325 := n0_; have HO329 := n1_; have HO333 := n2_; have HO336 := n3_; have HB := n4_; clear n0_ n1_ n2_ n3_ n4_; (try clear hb); (try clear hb2); (try clear hk); (try clear hi); (try clear ho0)) | ((with_reducible refine gate_callee (f := 71) rfl ?_); refine goesL_ (some 40) rfl rfl Try.func71 (by kernel_rfl) rfl #[.slice A0 l0.length c0] rfl (by (try simp only [List.map_toArray, List.map_cons, List.map_nil]); first | done | rfl | (simp only [List.length_drop, List.length_take]; rfl)) ?_; (with_reducible refine (spec_DrawLabelOk.calls k _ _ l0 t337 t338 _ ?side1 ?side2 A8.out).mono ?_); (case side1 => repeat (first | exact (Kd.C_below HR0.out HB.out) | (with_reducible refine Kd.C_alloc ?_ _) | (with_reducible refine Kd.C_drewN ?_ _) | (with_reducible refine Kd.C_drew ?_))); (case side2 => exact HC0.out); rintro e w19 ⟨rfl, hb⟩; refine ⟨_, rfl, ?_⟩; have n0_ := rb HO325 hb; have n1_ := rb HO329 hb; have n2_ := rb HO333 hb; have n3_ := rb HO336 hb; have n4_ := aM (below_step (by repeat (first | (with_reducible first | exact HB.out | apply aW1 | apply aW2 | apply aW3) | exact HB.out)) hb); clear HO325 HO329 HO333 HO336 HB; have HO325 := n0_; have HO329 := n1_; have HO333 := n2_; have HO336 := n3_; have HB := n4_; clear n0_ n1_ n2_ n3_ n4_; (try clear hb); (try clear hb2); (try clear hk); (try clear hi)) | ((with_reducible refine gate_dst (N := 9) rfl ?_); (try (refine gate_guard (by rfl) ?_; dsimp only)); refine box_event ?hg (N := 9) ?hd (cs := #[.string (⟨#[]⟩ : ByteArray), .string (⟨#[]⟩ : ByteArray)]) (t := 86) ?hr ?_; (case hd => rfl); (case hg => rfl); (case hr => first | (go_simp; done) | (go_simp; rfl)); intro gb339 hg w20 hbox hb; have n0_ := aM (Kd.R_below (Kd.R_elderB (aR HO325) gb339 (Nat.le_of_eq hg.symm)) hb); have n1_ := aM (Kd.R_below (Kd.R_elderB (aR HO329) gb339 (Nat.le_of_eq hg.symm)) hb); have n2_ := aM (Kd.R_below (Kd.R_elderB (aR HO333) gb339 (Nat.le_of_eq hg.symm)) hb); have n3_ := aM (Kd.R_below (Kd.R_elderB (aR HO336) gb339 (Nat.le_of_eq hg.symm)) hb); have n4_ := aM (below_step (by repeat (first | (with_reducible first | exact HB.out | apply aW1 | apply aW2 | apply aW3) | exact HB.out)) hb); have n5_ := aM (hbox); have n6_ := aM ((by rw [hg]; exact (below_size (by repeat (first | (with_reducible first | exact HB.out | apply aW1 | apply aW2 | apply aW3) | exact HB.out))) : w.heap.size ≤ gb339)); have n7_ := aM ((by rw [hg]; exact (below_size (by repeat (first | (with_reducible first | exact HB.out | apply aW1 | apply aW2 | apply aW3) | exact HB.out))) : w.heap.size ≤ gb339)); clear HO325 HO329 HO333 HO336 HB; have HO325 := n0_; have HO329 := n1_; have HO333 := n2_; have HO336 := n3_; have HB := n4_; have BK339 := n5_; have GW339 := n6_; have GE339 := n7_; clear n0_ n1_ n2_ n3_ n4_ n5_ n6_ n7_ hb hbox hg; have hcz21_0 := cz2_0 BK339; have hcz21_1 := cz2_1 BK339; have hfz21_0 := blk_frozen BK339.out 0; have hfz21_1 := blk_frozen BK339.out 1) | ((with_reducible refine gate_callee (f := 72) rfl ?_); refine goesL_ (some 43) rfl rfl Try.func72 (by kernel_rfl) rfl #[.slice A0 l0.length c0] rfl (by (try simp only [List.map_toArray, List.map_cons, List.map_nil]); first | done | rfl | (simp only [List.length_drop, List.length_take]; rfl)) ?_; (with_reducible refine (spec_DrawSameSet.calls k _ _ l0 t340 t341 _ ?side1 ?side2 A9.out).mono ?_); (case side1 => exact Kd.C_below HR0.out (by repeat (first | (with_reducible first | exact HB.out | apply aW1 | apply aW2 | apply aW3 | refine below_set ?_ GE339.out) | exact HB.out))); (case side2 => exact HC0.out); rintro e w22 ⟨v342, v344, rfl, ho0, ho1, hb⟩; refine ⟨_, rfl, ?_⟩; have n0_ := aM (Kd.R_mono (Kd.R_told (Kd.R_told (Kd.R_old (by (with_reducible repeat (first | apply aR1 | apply aR2 | apply aR3)); exact (Kd.R_mono (Kd.R_far (p := ⟨gb339, 1, none⟩) (Kd.R_far (p := ⟨gb339, 0, none⟩) (Kd.R_mono HO325.out (fun k_ hk => (⟨hk, hk.2⟩ : _ ∧ k_ ≠ gb339))) (fun _ hk => hk.2) (.string t337)) (fun _ hk => hk.2) (.string t338)) (fun _ h_ => h_.1))) hb) (Kd.R_base ho0)) (Kd.R_base ho1)) (fun _ h_ => h_.1)); have n1_ := aM (Kd.R_mono (Kd.R_told (Kd.R_told (Kd.R_old (by (with_reducible repeat (first | apply aR1 | apply aR2 | apply aR3)); exact (Kd.R_mono (Kd.R_far (p := ⟨gb339, 1, none⟩) (Kd.R_far (p := ⟨gb339, 0, none⟩) (Kd.R_mono HO329.out (fun k_ hk => (⟨hk, hk.2⟩ : _ ∧ k_ ≠ gb339))) (fun _ hk => hk.2) (.string t337)) (fun _ hk => hk.2) (.string t338)) (fun _ h_ => h_.1))) hb) (Kd.R_base ho0)) (Kd.R_base ho1)) (fun _ h_ => h_.1)); have n2_ := aM (Kd.R_mono (Kd.R_told (Kd.R_told (Kd.R_old (by (with_reducible repeat (first | apply aR1 | apply aR2 | apply aR3)); exact (Kd.R_mono (Kd.R_far (p := ⟨gb339, 1, none⟩) (Kd.R_far (p := ⟨gb339, 0, none⟩) (Kd.R_mono HO333.out (fun k_ hk => (⟨hk, hk.2⟩ : _ ∧ k_ ≠ gb339))) (fun _ hk => hk.2) (.string t337)) (fun _ hk => hk.2) (.string t338)) (fun _ h_ => h_.1))) hb) (Kd.R_base ho0)) (Kd.R_base ho1)) (fun _ h_ => h_.1)); have n3_ := aM (Kd.R_mono (Kd.R_told (Kd.R_told (Kd.R_old (by (with_reducible repeat (first | apply aR1 | apply aR2 | apply aR3)); exact (Kd.R_mono (Kd.R_far (p := ⟨gb339, 1, none⟩) (Kd.R_far (p := ⟨gb339, 0, none⟩) (Kd.R_mono HO336.out (fun k_ hk => (⟨hk, hk.2⟩ : _ ∧ k_ ≠ gb339))) (fun _ hk => hk.2) (.string t337)) (fun _ hk => hk.2) (.string t338)) (fun _ h_ => h_.1))) hb) (Kd.R_base ho0)) (Kd.R_base ho1)) (fun _ h_ => h_.1)); have n4_ := aM (Kd.R_lower (Kd.R_newB (Kd.R_new' (Kd.R_new' (Kd.R_new' (Kd.R_new' ho0 (Kd.R_lt (by (with_reducible repeat (first | apply aR1 | apply aR2 | apply aR3)); exact (Kd.R_mono (Kd.R_far (p := ⟨gb339, 1, none⟩) (Kd.R_far (p := ⟨gb339, 0, none⟩) (Kd.R_mono HO325.out (fun k_ hk => (⟨hk, hk.2⟩ : _ ∧ k_ ≠ gb339))) (fun _ hk => hk.2) (.string t337)) (fun _ hk => hk.2) (.string t338)) (fun _ h_ => h_.1))))) (Kd.R_lt (by (with_reducible repeat (first | apply aR1 | apply aR2 | apply aR3)); exact (Kd.R_mono (Kd.R_far (p := ⟨gb339, 1, none⟩) (Kd.R_far (p := ⟨gb339, 0, none⟩) (Kd.R_mono HO329.out (fun k_ hk => (⟨hk, hk.2⟩ : _ ∧ k_ ≠ gb339))) (fun _ hk => hk.2) (.string t337)) (fun _ hk => hk.2) (.string t338)) (fun _ h_ => h_.1))))) (Kd.R_lt (by (with_reducible repeat (first | apply aR1 | apply aR2 | apply aR3)); exact (Kd.R_mono (Kd.R_far (p := ⟨gb339, 1, none⟩) (Kd.R_far (p := ⟨gb339, 0, none⟩) (Kd.R_mono HO333.out (fun k_ hk => (⟨hk, hk.2⟩ : _ ∧ k_ ≠ gb339))) (fun _ hk => hk.2) (.string t337)) (fun _ hk => hk.2) (.string t338)) (fun _ h_ => h_.1))))) (Kd.R_lt (by (with_reducible repeat (first | apply aR1 | apply aR2 | apply aR3)); exact (Kd.R_mono (Kd.R_far (p := ⟨gb339, 1, none⟩) (Kd.R_far (p := ⟨gb339, 0, none⟩) (Kd.R_mono HO336.out (fun k_ hk => (⟨hk, hk.2⟩ : _ ∧ k_ ≠ gb339))) (fun _ hk => hk.2) (.string t337)) (fun _ hk => hk.2) (.string t338)) (fun _ h_ => h_.1))))) (g := gb339) (o := .cells #[.string t337, .string t338] 86 (0, 0)) (by (with_reducible repeat (first | refine aB1 ?_ _ | refine aB2 ?_ | refine aB3 ?_ _)); refine blk_put (cs := #[.string t337, .string (⟨#[]⟩ : ByteArray)]) ?_ 1 _ rfl; (with_reducible repeat (first | refine aB1 ?_ _ | refine aB2 ?_ | refine aB3 ?_ _)); refine blk_put (cs := #[.string (⟨#[]⟩ : ByteArray), .string (⟨#[]⟩ : ByteArray)]) ?_ 0 _ rfl; (with_reducible repeat (first | refine aB1 ?_ _ | refine aB2 ?_ | refine aB3 ?_ _)); exact BK339.out)) (below_size (by repeat (first | (with_reducible first | exact HB.out | apply aW1 | apply aW2 | apply aW3 | refine below_set ?_ GE339.out) | exact HB.out)))); have n5_ := aM (Kd.R_lower (Kd.R_newB (Kd.R_new' (Kd.R_new' (Kd.R_new' (Kd.R_new' ho1 (Kd.R_lt (by (with_reducible repeat (first | apply aR1 | apply aR2 | apply aR3)); exact (Kd.R_mono (Kd.R_far (p := ⟨gb339, 1, none⟩) (Kd.R_far (p := ⟨gb339, 0, none⟩) (Kd.R_mono HO325.out (fun k_ hk => (⟨hk, hk.2⟩ : _ ∧ k_ ≠ gb339))) (fun _ hk => hk.2) (.string t337)) (fun _ hk => hk.2) (.string t338)) (fun _ h_ => h_.1))))) (Kd.R_lt (by (with_reducible repeat (first | apply aR1 | apply aR2 | apply aR3)); exact (Kd.R_mono (Kd.R_far (p := ⟨gb339, 1, none⟩) (Kd.R_far (p := ⟨gb339, 0, none⟩) (Kd.R_mono HO329.out (fun k_ hk => (⟨hk, hk.2⟩ : _ ∧ k_ ≠ gb339))) (fun _ hk => hk.2) (.string t337)) (fun _ hk => hk.2) (.string t338)) (fun _ h_ => h_.1))))) (Kd.R_lt (by (with_reducible repeat (first | apply aR1 | apply aR2 | apply aR3)); exact (Kd.R_mono (Kd.R_far (p := ⟨gb339, 1, none⟩) (Kd.R_far (p := ⟨gb339, 0, none⟩) (Kd.R_mono HO333.out (fun k_ hk => (⟨hk, hk.2⟩ : _ ∧ k_ ≠ gb339))) (fun _ hk => hk.2) (.string t337)) (fun _ hk => hk.2) (.string t338)) (fun _ h_ => h_.1))))) (Kd.R_lt (by (with_reducible repeat (first | apply aR1 | apply aR2 | apply aR3)); exact (Kd.R_mono (Kd.R_far (p := ⟨gb339, 1, none⟩) (Kd.R_far (p := ⟨gb339, 0, none⟩) (Kd.R_mono HO336.out (fun k_ hk => (⟨hk, hk.2⟩ : _ ∧ k_ ≠ gb339))) (fun _ hk => hk.2) (.string t337)) (fun _ hk => hk.2) (.string t338)) (fun _ h_ => h_.1))))) (g := gb339) (o := .cells #[.string t337, .string t338] 86 (0, 0)) (by (with_reducible repeat (first | refine aB1 ?_ _ | refine aB2 ?_ | refine aB3 ?_ _)); refine blk_put (cs := #[.string t337, .string (⟨#[]⟩ : ByteArray)]) ?_ 1 _ rfl; (with_reducible repeat (first | refine aB1 ?_ _ | refine aB2 ?_ | refine aB3 ?_ _)); refine blk_put (cs := #[.string (⟨#[]⟩ : ByteArray), .string (⟨#[]⟩ : ByteArray)]) ?_ 0 _ rfl; (with_reducible repeat (first | refine aB1 ?_ _ | refine aB2 ?_ | refine aB3 ?_ _)); exact BK339.out)) (below_size (by repeat (first | (with_reducible first | exact HB.out | apply aW1 | apply aW2 | apply aW3 | refine below_set ?_ GE339.out) | exact HB.out)))); have n6_ := aM (blk_below (g := gb339) (o := .cells #[.string t337, .string t338] 86 (0, 0)) (by (with_reducible repeat (first | refine aB1 ?_ _ | refine aB2 ?_ | refine aB3 ?_ _)); refine blk_put (cs := #[.string t337, .string (⟨#[]⟩ : ByteArray)]) ?_ 1 _ rfl; (with_reducible repeat (first | refine aB1 ?_ _ | refine aB2 ?_ | refine aB3 ?_ _)); refine blk_put (cs := #[.string (⟨#[]⟩ : ByteArray), .string (⟨#[]⟩ : ByteArray)]) ?_ 0 _ rfl; (with_reducible repeat (first | refine aB1 ?_ _ | refine aB2 ?_ | refine aB3 ?_ _)); exact BK339.out) hb); have n7_ := aM (below_step (by repeat (first | (with_reducible first | exact HB.out | apply aW1 | apply aW2 | apply aW3 | refine below_set ?_ GE339.out) | exact HB.out)) hb); clear HO325 HO329 HO333 HO336 BK339 HB; have HO325 := n0_; have HO329 := n1_; have HO333 := n2_; have HO336 := n3_; have HO343 := n4_; have HO345 := n5_; have BK339 := n6_; have HB := n7_; clear n0_ n1_ n2_ n3_ n4_ n5_ n6_ n7_; (try clear hb); (try clear hb2); (try clear hk); (try clear hi); (try clear ho0); (try clear ho1)) | ((with_reducible refine gate_callee (f := 73) rfl ?_); refine goesL_ (some 48) rfl rfl Try.func73 (by kernel_rfl) rfl #[.slice A0 l0.length c0] rfl (by (try simp only [List.map_toArray, List.map_cons, List.map_nil]); first | done | rfl | (simp only [List.length_drop, List.length_take]; rfl)) ?_; (with_reducible refine (spec_DrawValOf.calls k _ _ l0 t346 t347 _ ?side1 ?side2 A10.out).mono ?_); (case side1 => repeat (first | exact (Kd.C_below HR0.out HB.out) | (with_reducible refine Kd.C_alloc ?_ _) | (with_reducible refine Kd.C_drewN ?_ _) | (with_reducible refine Kd.C_drew ?_))); (case side2 => exact HC0.out); rintro e w23 ⟨v348, rfl, ho0, hb⟩; refine ⟨_, rfl, ?_⟩; have n0_ := aM (Kd.R_elder' (aR HO325) (Kd.R_base ho0) hb); have n1_ := aM (Kd.R_elder' (aR HO329) (Kd.R_base ho0) hb); have n2_ := aM (Kd.R_elder' (aR HO333) (Kd.R_base ho0) hb); have n3_ := aM (Kd.R_elder' (aR HO336) (Kd.R_base ho0) hb); have n4_ := aM (Kd.R_elder' (aR HO343) (Kd.R_base ho0) hb); have n5_ := aM (Kd.R_elder' (aR HO345) (Kd.R_base ho0) hb); have n6_ := aM (Kd.R_lower (Kd.R_newB (Kd.R_new' (Kd.R_new' (Kd.R_new' (Kd.R_new' (Kd.R_new' (Kd.R_new' ho0 (Kd.R_lt (aR HO325))) (Kd.R_lt (aR HO329))) (Kd.R_lt (aR HO333))) (Kd.R_lt (aR HO336))) (Kd.R_lt (aR HO343))) (Kd.R_lt (aR HO345))) (g := gb339) (aB BK339)) (below_size (by repeat (first | (with_reducible first | exact HB.out | apply aW1 | apply aW2 | apply aW3 | refine below_set ?_ GE339.out) | exact HB.out)))); have n7_ := bb BK339 hb; have n8_ := aM (below_step (by repeat (first | (with_reducible first | exact HB.out | apply aW1 | apply aW2 | apply aW3 | refine below_set ?_ GE339.out) | exact HB.out)) hb); clear HO325 HO329 HO333 HO336 HO343 HO345 BK339 HB; have HO325 := n0_; have HO329 := n1_; have HO333 := n2_; have HO336 := n3_; have HO343 := n4_; have HO345 := n5_; have HO349 := n6_; have BK339 := n7_; have HB := n8_; clear n0_ n1_ n2_ n3_ n4_ n5_ n6_ n7_ n8_; (try clear hb); (try clear hb2); (try clear hk); (try clear hi); (try clear ho0); obtain ⟨Ao24, co24, eo24⟩ := Kd.R_slice HO349.out; subst eo24) | ((with_reducible refine gate_callee (f := 74) rfl ?_); refine goesL_ (some 54) rfl rfl Try.func74 (by kernel_rfl) rfl #[.slice Ao24 t346.length co24, .string t347] rfl (by (try simp only [List.map_toArray, List.map_cons, List.map_nil]); first | done | rfl | (simp only [List.length_drop, List.length_take]; rfl)) ?_; (with_reducible refine (impl_ValOf.calls k _ _ t346 t347 t350 t351 _ ?side1 ?side2 A11.out).mono ?_); (case side1 => repeat (first | exact (Kd.R_reads' HO349.out).2.2 | (with_reducible refine Kd.C_alloc ?_ _) | (with_reducible refine Kd.C_drewN ?_ _) | (with_reducible refine Kd.C_drew ?_))); (case side2 => exact (Kd.R_reads' HO349.out).2.1); rintro e w25 ⟨rfl, hb⟩; refine ⟨_, rfl, ?_⟩; have n0_ := rb HO325 hb; have n1_ := rb HO329 hb; have n2_ := rb HO333 hb; have n3_ := rb HO336 hb; have n4_ := rb HO343 hb; have n5_ := rb HO345 hb; have n6_ := rb HO349 hb; have n7_ := bb BK339 hb; have n8_ := aM (below_step (by repeat (first | (with_reducible first | exact HB.out | apply aW1 | apply aW2 | apply aW3 | refine below_set ?_ GE339.out) | exact HB.out)) hb); clear HO325 HO329 HO333 HO336 HO343 HO345 HO349 BK339 HB; have HO325 := n0_; have HO329 := n1_; have HO333 := n2_; have HO336 := n3_; have HO343 := n4_; have HO345 := n5_; have HO349 := n6_; have BK339 := n7_; have HB := n8_; clear n0_ n1_ n2_ n3_ n4_ n5_ n6_ n7_ n8_; (try clear hb); (try clear hb2); (try clear hk); (try clear hi)) | ((with_reducible refine gate_callee (f := 75) rfl ?_); refine goesL_ (some 60) rfl rfl Try.func75 (by kernel_rfl) rfl #[.slice Ao24 t346.length co24, .string t347] rfl (by (try simp only [List.map_toArray, List.map_cons, List.map_nil]); first | done | rfl | (simp only [List.length_drop, List.length_take]; rfl)) ?_; (with_reducible refine (spec_ValOf.calls k _ _ t346 t347 t352 t353 _ ?side1 ?side2 A12.out).mono ?_); (case side1 => repeat (first | exact (Kd.R_reads' HO349.out).2.2 | (with_reducible refine Kd.C_alloc ?_ _) | (with_reducible refine Kd.C_drewN ?_ _) | (with_reducible refine Kd.C_drew ?_))); (case side2 => exact (Kd.R_reads' HO349.out).2.1); rintro e w' ⟨rfl, ⟨nd, rfl⟩⟩; refine ⟨_, rfl, ?_⟩))
  (try simp only [Act.put, List.setIfInBounds_toArray, List.set_cons_zero, List.set_cons_succ])
  go_cut [104] (fun v104 wc => ∃ (kq : Nat) (x104_12 : Bool), v104 = .bool x104_12 ∧ Aside0 (laws_FnSets.j0 kq t323 t326 t327 x104_12 = some r) ∧ Aside0 (kq ≤ k) ∧ Aside0 (Kd.R k86 86 wc w.heap.size (fun k_ => some k_ ≠ (v328 : Value).ownBlock ∧ k_ ≠ gb339) (.slice Ao15 t323.length co15) t323) ∧ Aside0 (Kd.R k86 86 wc w.heap.size (fun k_ => some k_ ≠ ((.slice Ao15 t323.length co15) : Value).ownBlock ∧ k_ ≠ gb339) v328 t326) ∧ Aside0 (wc.heap[gb339]? = some (.cells #[.string t337, .string t338] 86 (0, 0))) ∧ Aside0 (Below w.heap.size w wc))
  case first =>
   have n0_ := aM (Kd.R_drewN HO325.out nd)
   have n1_ := aM (Kd.R_drewN HO329.out nd)
   have n2_ := aM (Kd.R_drewN HO333.out nd)
   have n3_ := aM (Kd.R_drewN HO336.out nd)
   have n4_ := aM (Kd.R_drewN HO343.out nd)
   have n5_ := aM (Kd.R_drewN HO345.out nd)
   have n6_ := aM (Kd.R_drewN HO349.out nd)
   have n7_ := aM (blk_drewN BK339.out nd)
   have n8_ := aM (pw_below_drewN HB.out nd)
   clear HO325 HO329 HO333 HO336 HO343 HO345 HO349 BK339 HB
   have HO325 := n0_
   have HO329 := n1_
   have HO333 := n2_
   have HO336 := n3_
   have HO343 := n4_
   have HO345 := n5_
   have HO349 := n6_
   have BK339 := n7_
   have HB := n8_
   clear n0_ n1_ n2_ n3_ n4_ n5_ n6_ n7_ n8_
   generalize w25.drewN nd = w25 at HO325 HO329 HO333 HO336 HO343 HO345 HO349 BK339 HB ⊢
   have H := HC13.out
   clear HC13
   by_cases c26 : (t327 != t331) = true
   ·rw [if_pos c26] at H
    have c26b0 : (t327 != t331) = true := c26
    (try (have c26b1 : decide (t327 = t331) = false := by simpa using c26))
    (try (have c26b2 : (t327 == t331) = false := by simpa using c26))
    (try (have c26b3 : ¬ (t327 = t331) := by simpa using c26))
    clear c26
    (first | rw [c26b0] | rw [c26b1] | (simp only [i64_w, i32_w]; rw [c26b0]) | skip)
    have H' := aM H
    clear H
    try go_wp2
    have n0_ := aM (Kd.R_drew HO325.out)
    have n1_ := aM (Kd.R_drew HO329.out)
    have n2_ := aM (Kd.R_drew HO333.out)
    have n3_ := aM (Kd.R_drew HO336.out)
    have n4_ := aM (Kd.R_drew HO343.out)
    have n5_ := aM (Kd.R_drew HO345.out)
    have n6_ := aM (Kd.R_drew HO349.out)
    have n7_ := aM (blk_drew BK339.out)
    have n8_ := aM (below_drew1 HB.out)
    clear HO325 HO329 HO333 HO336 HO343 HO345 HO349 BK339 HB; have HO325 := n0_; have HO329 := n1_; have HO333 := n2_; have HO336 := n3_; have HO343 := n4_; have HO345 := n5_; have HO349 := n6_; have BK339 := n7_; have HB := n8_; clear n0_ n1_ n2_ n3_ n4_ n5_ n6_ n7_ n8_
    refine start_ (n := 42) (S := fun w' => True) (ds := []) (bz 42 0) (by kernel_rfl) rfl (by kernel_rfl) trivial (fun hHeld => ?_); refine with_tabW laws_FnSets.tab12 laws_FnSets.bits12 (fun HT_ HW_ => ?_)
    generalize w25.drew = w27 at HO325 HO329 HO333 HO336 HO343 HO345 HO349 BK339 HB hHeld ⊢
    refine (pu 0 (some 63) 1 ?_ ?_ HT_ rfl rfl (by kernel_rfl) (fun _ _ _ h => h) ?_ ?_ ?_ (pu 1 (some 64) 3 ?_ ?_ HT_ rfl rfl (by kernel_rfl) (fun _ _ _ h => h) ?_ ?_ ?_ (pu 2 (some 65) 7 ?_ ?_ HT_ rfl rfl (by kernel_rfl) (fun _ _ _ h => h) ?_ ?_ ?_ (pu 3 (some 66) 15 ?_ ?_ HT_ rfl rfl (by kernel_rfl) (fun _ _ _ h => h) ?_ ?_ ?_ (po 4 (some 67) 31 ?_ HT_ rfl rfl (by kernel_rfl) (fun _ _ _ h => h) ?_ ?_ (po 5 (some 68) 63 ?_ HT_ rfl rfl (by kernel_rfl) (fun _ _ _ h => h) ?_ ?_ (po 6 (some 69) 127 ?_ HT_ rfl rfl (by kernel_rfl) (fun _ _ _ h => h) ?_ ?_ (po 7 (some 70) 255 ?_ HT_ rfl rfl (by kernel_rfl) (fun _ _ _ h => h) ?_ ?_ (pu 8 (some 71) 511 ?_ ?_ HT_ rfl rfl (by kernel_rfl) (fun _ _ _ h => h) ?_ ?_ ?_ (pu 9 (some 72) 1023 ?_ ?_ HT_ rfl rfl (by kernel_rfl) (fun _ _ _ h => h) ?_ ?_ ?_ (po 10 (some 73) 2047 ?_ HT_ rfl rfl (by kernel_rfl) (fun _ _ _ h => h) ?_ ?_ (po 11 (some 74) 4095 ?_ HT_ rfl rfl (by kernel_rfl) (fun _ _ _ h => h) ?_ ?_ (po 12 (some 75) 8191 ?_ HT_ rfl rfl (by kernel_rfl) (fun _ _ _ h => h) ?_ ?_ (po 13 (some 76) 16383 ?_ HT_ rfl rfl (by kernel_rfl) (fun _ _ _ h => h) ?_ ?_ (po 14 (some 77) 32767 ?_ HT_ rfl rfl (by kernel_rfl) (fun _ _ _ h => h) ?_ ?_ (pu 15 (some 78) 65535 ?_ ?_ HT_ rfl rfl (by kernel_rfl) (fun _ _ _ h => h) ?_ ?_ ?_ (pu 16 (some 79) 131071 ?_ ?_ HT_ rfl rfl (by kernel_rfl) (fun _ _ _ h => h) ?_ ?_ ?_ (po 17 (some 80) 262143 ?_ HT_ rfl rfl (by kernel_rfl) (fun _ _ _ h => h) ?_ ?_ (po 18 (some 81) 524287 ?_ HT_ rfl rfl (by kernel_rfl) (fun _ _ _ h => h) ?_ ?_ (po 19 (some 82) 1048575 ?_ HT_ rfl rfl (by kernel_rfl) (fun _ _ _ h => h) ?_ ?_ (po 20 (some 83) 2097151 ?_ HT_ rfl rfl (by kernel_rfl) (fun _ _ _ h => h) ?_ ?_ (po 21 (some 84) 4194303 ?_ HT_ rfl rfl (by kernel_rfl) (fun _ _ _ h => h) ?_ ?_ (pu 22 (some 85) 8388607 ?_ ?_ HT_ rfl rfl (by kernel_rfl) (fun _ _ _ h => h) ?_ ?_ ?_ (pu 23 (some 86) 16777215 ?_ ?_ HT_ rfl rfl (by kernel_rfl) (fun _ _ _ h => h) ?_ ?_ ?_ (po 24 (some 87) 33554431 ?_ HT_ rfl rfl (by kernel_rfl) (fun _ _ _ h => h) ?_ ?_ (po 25 (some 88) 67108863 ?_ HT_ rfl rfl (by kernel_rfl) (fun _ _ _ h => h) ?_ ?_ (po 26 (some 89) 134217727 ?_ HT_ rfl rfl (by kernel_rfl) (fun _ _ _ h => h) ?_ ?_ (po 27 (some 90) 268435455 ?_ HT_ rfl rfl (by kernel_rfl) (fun _ _ _ h => h) ?_ ?_ (po 28 (some 91) 536870911 ?_ HT_ rfl rfl (by kernel_rfl) (fun _ _ _ h => h) ?_ ?_ (po 29 (some 92) 1073741823 ?_ HT_ rfl rfl (by kernel_rfl) (fun _ _ _ h => h) ?_ ?_ (po 30 (some 93) 2147483647 ?_ HT_ rfl rfl (by kernel_rfl) (fun _ _ _ h => h) ?_ ?_ (pu 31 (some 94) 4294967295 ?_ ?_ HT_ rfl rfl (by kernel_rfl) (fun _ _ _ h => h) ?_ ?_ ?_ (pu 32 (some 95) 8589934591 ?_ ?_ HT_ rfl rfl (by kernel_rfl) (fun _ _ _ h => h) ?_ ?_ ?_ (po 33 (some 96) 17179869183 ?_ HT_ rfl rfl (by kernel_rfl) (fun _ _ _ h => h) ?_ ?_ (po 34 (some 97) 34359738367 ?_ HT_ rfl rfl (by kernel_rfl) (fun _ _ _ h => h) ?_ ?_ (po 35 (some 98) 68719476735 ?_ HT_ rfl rfl (by kernel_rfl) (fun _ _ _ h => h) ?_ ?_ (pu 36 (some 99) 137438953471 ?_ ?_ HT_ rfl rfl (by kernel_rfl) (fun _ _ _ h => h) ?_ ?_ ?_ (pu 37 (some 100) 274877906943 ?_ ?_ HT_ rfl rfl (by kernel_rfl) (fun _ _ _ h => h) ?_ ?_ ?_ (po 38 (some 101) 549755813887 ?_ HT_ rfl rfl (by kernel_rfl) (fun _ _ _ h => h) ?_ ?_ (po 39 (some 102) 1099511627775 ?_ HT_ rfl rfl (by kernel_rfl) (fun _ _ _ h => h) ?_ ?_ (po 40 (some 103) 2199023255551 ?_ HT_ rfl rfl (by kernel_rfl) (fun _ _ _ h => h) ?_ ?_ (pu 41 (some 104) 4398046511103 ?_ ?_ HT_ rfl rfl (by kernel_rfl) (fun _ _ _ h => h) ?_ ?_ ?_ ?_))))))))))))))))))))))))))))))))))))))))))
    all_goals first | (intro w'; go_simp; with_reducible rfl) | (simp only [Act.put, List.setIfInBounds_toArray, List.set_cons_zero, List.set_cons_succ, i64_w, i32_w]; rfl) | rfl | skip
    refine done_ (done_of HT_.out (by kernel_rfl)) ?_
    try go_wp2
    go_meet
    case rel => exact ⟨_, (true), (by first | rfl | (simp; done) | (simp [*]; done)), H', ⟨by first | omega | exact Nat.le_refl _⟩, ⟨by (with_reducible repeat (first | apply aR1 | apply aR2 | apply aR3)); exact Kd.R_mono HO325.out (fun _ hk => ⟨hk.1.1.1.1.1.1.2, hk.1.1.1.2⟩)⟩, ⟨by (with_reducible repeat (first | apply aR1 | apply aR2 | apply aR3)); exact Kd.R_mono HO329.out (fun _ hk => ⟨hk.1.1.1.1.1.1.2, hk.1.1.1.2⟩)⟩, ⟨by (with_reducible repeat (first | refine aB1 ?_ _ | refine aB2 ?_ | refine aB3 ?_ _)); exact BK339.out⟩, ⟨by repeat (first | (with_reducible first | exact HB.out | apply aW1 | apply aW2 | apply aW3 | refine below_set ?_ GE339.out) | exact HB.out)⟩⟩
   ·rw [if_neg c26] at H
    have c26b0 : (t327 != t331) = false := by simpa using c26
    (try (have c26b1 : decide (t327 = t331) = true := by simpa using c26))
    (try (have c26b2 : (t327 == t331) = true := by simpa using c26))
    clear c26
    (first | rw [c26b0] | rw [c26b1] | (simp only [i64_w, i32_w]; rw [c26b0]) | skip)
    replace H := Option.bind_eq_some_iff.mp H; obtain ⟨t354, A280, H⟩ := H; try dsimp only at H
    have A28 := aM A280
    clear A280
    by_cases c29 : t354 = true
    ·subst c29
     have H1 : ((impl_SetOk.f k t334).bind fun t355 => ((spec_SetOk.f k t334).bind fun t356 => (if (t355 != t356) = true then (laws_FnSets.j0 k t323 t326 t327 true) else ((impl_LabelOk.f k t337 t338).bind fun t357 => ((spec_LabelOk.f k t337 t338).bind fun t358 => (if (t357 != t358) = true then (laws_FnSets.j0 k t323 t326 t327 true) else ((impl_SameSet.f k t340 t341).bind fun t359 => ((spec_SameSet.f k t340 t341).bind fun t360 => (if (t359 != t360) = true then (laws_FnSets.j0 k t323 t326 t327 true) else (if t350.toList = t352.toList then (laws_FnSets.j0 k t323 t326 t327 (t351 != t353)) else (laws_FnSets.j0 k t323 t326 t327 true))))))))))) = some r := by rw [if_pos rfl] at H; exact H
     clear H
     have H := H1
     clear H1; replace H := Option.bind_eq_some_iff.mp H; obtain ⟨t355, A300, H⟩ := H; try dsimp only at H
     have A30 := aM A300
     clear A300; replace H := Option.bind_eq_some_iff.mp H; obtain ⟨t356, A310, H⟩ := H; try dsimp only at H
     have A31 := aM A310
     clear A310
     by_cases c32 : (t355 != t356) = true
     ·rw [if_pos c32] at H
      have c32b0 : (t355 != t356) = true := c32
      (try (have c32b1 : decide (t355 = t356) = false := by simpa using c32))
      (try (have c32b2 : (t355 == t356) = false := by simpa using c32))
      (try (have c32b3 : ¬ (t355 = t356) := by simpa using c32))
      clear c32
      have H' := aM H
      clear H
      try go_wp2
      have n0_ := aM (Kd.R_drew HO325.out)
      have n1_ := aM (Kd.R_drew HO329.out)
      have n2_ := aM (Kd.R_drew HO333.out)
      have n3_ := aM (Kd.R_drew HO336.out)
      have n4_ := aM (Kd.R_drew HO343.out)
      have n5_ := aM (Kd.R_drew HO345.out)
      have n6_ := aM (Kd.R_drew HO349.out)
      have n7_ := aM (blk_drew BK339.out)
      have n8_ := aM (below_drew1 HB.out)
      clear HO325 HO329 HO333 HO336 HO343 HO345 HO349 BK339 HB; have HO325 := n0_; have HO329 := n1_; have HO333 := n2_; have HO336 := n3_; have HO343 := n4_; have HO345 := n5_; have HO349 := n6_; have BK339 := n7_; have HB := n8_; clear n0_ n1_ n2_ n3_ n4_ n5_ n6_ n7_ n8_
      obtain ⟨Ao34, co34, eo34⟩ := Kd.R_slice HO329.out
      (first | subst eo34 | (injection eo34 with f1_ f2_ f3_; have f4_ := f1_.symm; have f5_ := f3_.symm; clear f1_ f2_ f3_; subst f4_; subst f5_))
      obtain ⟨Ao35, co35, eo35⟩ := Kd.R_slice HO333.out
      (first | subst eo35 | (injection eo35 with f1_ f2_ f3_; have f4_ := f1_.symm; have f5_ := f3_.symm; clear f1_ f2_ f3_; subst f4_; subst f5_))
      refine start_ (n := 42) (S := fun w' => True) (ds := []) (bz 42 0) (by kernel_rfl) rfl (by kernel_rfl) trivial (fun hHeld => ?_); refine with_tabW laws_FnSets.tab12 laws_FnSets.bits12 (fun HT_ HW_ => ?_)
      generalize w25.drew = w33 at HO325 HO329 HO333 HO336 HO343 HO345 HO349 BK339 HB hHeld ⊢
      refine (pu 0 (some 63) 1 ?_ ?_ HT_ rfl rfl (by kernel_rfl) (fun _ _ _ h => h) ?_ ?_ ?_ (pu 1 (some 64) 3 ?_ ?_ HT_ rfl rfl (by kernel_rfl) (fun _ _ _ h => h) ?_ ?_ ?_ (pu 2 (some 65) 7 ?_ ?_ HT_ rfl rfl (by kernel_rfl) (fun _ _ _ h => h) ?_ ?_ ?_ (pu 3 (some 66) 15 ?_ ?_ HT_ rfl rfl (by kernel_rfl) (fun _ _ _ h => h) ?_ ?_ ?_ (pu 4 (some 67) 31 ?_ ?_ HT_ rfl rfl (by kernel_rfl) (fun _ _ _ h => h) ?_ ?_ ?_ (pu 5 (some 68) 63 ?_ ?_ HT_ rfl rfl (by kernel_rfl) (fun _ _ _ h => h) ?_ ?_ ?_ ?_))))))
      all_goals first | (intro w'; go_simp; with_reducible rfl) | (simp only [Act.put, List.setIfInBounds_toArray, List.set_cons_zero, List.set_cons_succ, i64_w, i32_w]; rfl) | rfl | skip
      refine one_ (i := 6) (N := some 69) (bz 42 127) rfl rfl (one_of HT_.out (by kernel_rfl)) (by decide) (fun K hK => ?_)
      refine goes_ Try.func28 (by kernel_rfl) rfl #[.slice Ao34 t326.length co34, .slice Ao35 t330.length co35] (by rfl) rfl rfl (by (try simp only [List.map_toArray, List.map_cons, List.map_nil]); first | done | rfl | (simp only [List.length_drop, List.length_take]; rfl)) ?_
      with_reducible refine (impl_SameSet.calls k _ _ t326 _ _ t330 true _ ?side1 ?side2 ?side3 ?side4 A28.out).mono ?_
      (case side1 => repeat (first | exact (Kd.R_reads' HO329.out).2.2 | (with_reducible refine Kd.C_alloc ?_ _) | (with_reducible refine Kd.C_drewN ?_ _) | (with_reducible refine Kd.C_drew ?_)))
      (case side2 => exact (Kd.R_reads' HO329.out).2.1)
      (case side3 => repeat (first | exact (Kd.R_reads' HO333.out).2.2 | (with_reducible refine Kd.C_alloc ?_ _) | (with_reducible refine Kd.C_drewN ?_ _) | (with_reducible refine Kd.C_drew ?_)))
      (case side4 => exact (Kd.R_reads' HO333.out).2.1)
      rintro e w' ⟨rfl, ⟨nd, rfl⟩⟩
      refine ⟨_, rfl, ?_⟩
      obtain ⟨Ao36, co36, eo36⟩ := Kd.R_slice HO336.out
      (first | subst eo36 | (injection eo36 with f1_ f2_ f3_; have f4_ := f1_.symm; have f5_ := f3_.symm; clear f1_ f2_ f3_; subst f4_; subst f5_))
      refine hK.out _ _ trivial (fun hHeld => ?_)
      clear hK K
      refine norm_ (a' := ?_) ?_ ?_
      rotate_left
      ·show Act.put _ (some 69) _ = _
       simp only [Act.put, List.setIfInBounds_toArray, List.set_cons_zero, List.set_cons_succ, i64_w, i32_w]
       rfl
      refine (pu 7 (some 70) 255 ?_ ?_ HT_ rfl rfl (by kernel_rfl) (fun _ _ _ h => h) ?_ ?_ ?_ (pu 8 (some 71) 511 ?_ ?_ HT_ rfl rfl (by kernel_rfl) (fun _ _ _ h => h) ?_ ?_ ?_ (pu 9 (some 72) 1023 ?_ ?_ HT_ rfl rfl (by kernel_rfl) (fun _ _ _ h => h) ?_ ?_ ?_ (pu 10 (some 73) 2047 ?_ ?_ HT_ rfl rfl (by kernel_rfl) (fun _ _ _ h => h) ?_ ?_ ?_ (pu 12 (some 75) 6143 ?_ ?_ HT_ rfl rfl (by kernel_rfl) (fun _ _ _ h => h) ?_ ?_ ?_ ?_)))))
      all_goals first | (intro w'; go_simp; with_reducible rfl) | (simp only [Act.put, List.setIfInBounds_toArray, List.set_cons_zero, List.set_cons_succ, i64_w, i32_w]; rfl) | rfl | skip
      refine one_ (i := 11) (N := some 74) (bz 42 8191) rfl rfl (one_of HT_.out (by kernel_rfl)) (by decide) (fun K hK => ?_)
      refine goes_ Try.func27 (by kernel_rfl) rfl #[.slice Ao36 t334.length co36] (by rfl) rfl rfl (by (try simp only [List.map_toArray, List.map_cons, List.map_nil]); first | done | rfl | (simp only [List.length_drop, List.length_take]; rfl)) ?_
      with_reducible refine (impl_SetOk.calls k _ _ t334 t355 _ ?side1 ?side2 A30.out).mono ?_
      (case side1 => repeat (first | exact (Kd.R_reads' HO336.out).2.2 | (with_reducible refine Kd.C_alloc ?_ _) | (with_reducible refine Kd.C_drewN ?_ _) | (with_reducible refine Kd.C_drew ?_)))
      (case side2 => exact (Kd.R_reads' HO336.out).2.1)
      rintro e w37 ⟨rfl, hb⟩
      refine ⟨_, rfl, ?_⟩
      have n0_ := rb HO325 hb; have n1_ := rb HO329 hb; have n2_ := rb HO333 hb; have n3_ := rb HO336 hb; have n4_ := rb HO343 hb; have n5_ := rb HO345 hb; have n6_ := rb HO349 hb; have n7_ := bb BK339 hb
      have n8_ := aM (below_step (by repeat (first | (with_reducible first | exact HB.out | apply aW1 | apply aW2 | apply aW3 | refine below_set ?_ GE339.out) | exact HB.out)) hb)
      clear HO325 HO329 HO333 HO336 HO343 HO345 HO349 BK339 HB; have HO325 := n0_; have HO329 := n1_; have HO333 := n2_; have HO336 := n3_; have HO343 := n4_; have HO345 := n5_; have HO349 := n6_; have BK339 := n7_; have HB := n8_; clear n0_ n1_ n2_ n3_ n4_ n5_ n6_ n7_ n8_
      (try clear hb)
      (try clear hb2)
      (try clear hk)
      (try clear hi)
      refine hK.out _ _ trivial (fun hHeld => ?_)
      clear hK K
      refine norm_ (a' := ?_) ?_ ?_
      rotate_left
      ·show Act.put _ (some 74) _ = _
       simp only [Act.put, List.setIfInBounds_toArray, List.set_cons_zero, List.set_cons_succ, i64_w, i32_w]
       rfl
      refine one_ (i := 13) (N := some 76) (bz 42 16383) rfl rfl (one_of HT_.out (by kernel_rfl)) (by decide) (fun K hK => ?_)
      refine goes_ Try.func76 (by kernel_rfl) rfl #[.slice Ao36 t334.length co36] (by rfl) rfl rfl (by (try simp only [List.map_toArray, List.map_cons, List.map_nil]); first | done | rfl | (simp only [List.length_drop, List.length_take]; rfl)) ?_
      with_reducible refine (spec_SetOk.calls k _ _ t334 t356 _ ?side1 ?side2 A31.out).mono ?_
      (case side1 => repeat (first | exact (Kd.R_reads' HO336.out).2.2 | (with_reducible refine Kd.C_alloc ?_ _) | (with_reducible refine Kd.C_drewN ?_ _) | (with_reducible refine Kd.C_drew ?_)))
      (case side2 => exact (Kd.R_reads' HO336.out).2.1)
      rintro e w38 ⟨rfl, hb⟩
      refine ⟨_, rfl, ?_⟩
      have n0_ := rb HO325 hb; have n1_ := rb HO329 hb; have n2_ := rb HO333 hb; have n3_ := rb HO336 hb; have n4_ := rb HO343 hb; have n5_ := rb HO345 hb; have n6_ := rb HO349 hb; have n7_ := bb BK339 hb
      have n8_ := aM (below_step (by repeat (first | (with_reducible first | exact HB.out | apply aW1 | apply aW2 | apply aW3 | refine below_set ?_ GE339.out) | exact HB.out)) hb)
      clear HO325 HO329 HO333 HO336 HO343 HO345 HO349 BK339 HB; have HO325 := n0_; have HO329 := n1_; have HO333 := n2_; have HO336 := n3_; have HO343 := n4_; have HO345 := n5_; have HO349 := n6_; have BK339 := n7_; have HB := n8_; clear n0_ n1_ n2_ n3_ n4_ n5_ n6_ n7_ n8_
      (try clear hb)
      (try clear hb2)
      (try clear hk)
      (try clear hi)
      refine hK.out _ _ trivial (fun hHeld => ?_)
      clear hK K
      refine norm_ (a' := ?_) ?_ ?_
      rotate_left
      ·show Act.put _ (some 76) _ = _
       simp only [Act.put, List.setIfInBounds_toArray, List.set_cons_zero, List.set_cons_succ, i64_w, i32_w]
       rfl
      refine (pu 14 (some 77) 32767 ?_ ?_ HT_ rfl rfl (by kernel_rfl) (fun _ _ _ h => h) ?_ ?_ ?_ (pu 15 (some 78) 65535 ?_ ?_ HT_ rfl rfl (by kernel_rfl) (fun _ _ _ h => h) ?_ ?_ ?_ (pu 16 (some 79) 131071 ?_ ?_ HT_ rfl rfl (by kernel_rfl) (fun _ _ _ h => h) ?_ ?_ ?_ (po 17 (some 80) 262143 ?_ HT_ rfl rfl (by kernel_rfl) (fun _ _ _ h => h) ?_ ?_ (po 18 (some 81) 524287 ?_ HT_ rfl rfl (by kernel_rfl) (fun _ _ _ h => h) ?_ ?_ (po 19 (some 82) 1048575 ?_ HT_ rfl rfl (by kernel_rfl) (fun _ _ _ h => h) ?_ ?_ (po 20 (some 83) 2097151 ?_ HT_ rfl rfl (by kernel_rfl) (fun _ _ _ h => h) ?_ ?_ (po 21 (some 84) 4194303 ?_ HT_ rfl rfl (by kernel_rfl) (fun _ _ _ h => h) ?_ ?_ (pu 22 (some 85) 8388607 ?_ ?_ HT_ rfl rfl (by kernel_rfl) (fun _ _ _ h => h) ?_ ?_ ?_ (pu 23 (some 86) 16777215 ?_ ?_ HT_ rfl rfl (by kernel_rfl) (fun _ _ _ h => h) ?_ ?_ ?_ (po 24 (some 87) 33554431 ?_ HT_ rfl rfl (by kernel_rfl) (fun _ _ _ h => h) ?_ ?_ (po 25 (some 88) 67108863 ?_ HT_ rfl rfl (by kernel_rfl) (fun _ _ _ h => h) ?_ ?_ (po 26 (some 89) 134217727 ?_ HT_ rfl rfl (by kernel_rfl) (fun _ _ _ h => h) ?_ ?_ (po 27 (some 90) 268435455 ?_ HT_ rfl rfl (by kernel_rfl) (fun _ _ _ h => h) ?_ ?_ (po 28 (some 91) 536870911 ?_ HT_ rfl rfl (by kernel_rfl) (fun _ _ _ h => h) ?_ ?_ (po 29 (some 92) 1073741823 ?_ HT_ rfl rfl (by kernel_rfl) (fun _ _ _ h => h) ?_ ?_ (po 30 (some 93) 2147483647 ?_ HT_ rfl rfl (by kernel_rfl) (fun _ _ _ h => h) ?_ ?_ (pu 31 (some 94) 4294967295 ?_ ?_ HT_ rfl rfl (by kernel_rfl) (fun _ _ _ h => h) ?_ ?_ ?_ (pu 32 (some 95) 8589934591 ?_ ?_ HT_ rfl rfl (by kernel_rfl) (fun _ _ _ h => h) ?_ ?_ ?_ (po 33 (some 96) 17179869183 ?_ HT_ rfl rfl (by kernel_rfl) (fun _ _ _ h => h) ?_ ?_ (po 34 (some 97) 34359738367 ?_ HT_ rfl rfl (by kernel_rfl) (fun _ _ _ h => h) ?_ ?_ (po 35 (some 98) 68719476735 ?_ HT_ rfl rfl (by kernel_rfl) (fun _ _ _ h => h) ?_ ?_ (pu 36 (some 99) 137438953471 ?_ ?_ HT_ rfl rfl (by kernel_rfl) (fun _ _ _ h => h) ?_ ?_ ?_ (pu 37 (some 100) 274877906943 ?_ ?_ HT_ rfl rfl (by kernel_rfl) (fun _ _ _ h => h) ?_ ?_ ?_ (po 38 (some 101) 549755813887 ?_ HT_ rfl rfl (by kernel_rfl) (fun _ _ _ h => h) ?_ ?_ (po 39 (some 102) 1099511627775 ?_ HT_ rfl rfl (by kernel_rfl) (fun _ _ _ h => h) ?_ ?_ (po 40 (some 103) 2199023255551 ?_ HT_ rfl rfl (by kernel_rfl) (fun _ _ _ h => h) ?_ ?_ (pu 41 (some 104) 4398046511103 ?_ ?_ HT_ rfl rfl (by kernel_rfl) (fun _ _ _ h => h) ?_ ?_ ?_ ?_))))))))))))))))))))))))))))
      all_goals first | (intro w'; go_simp; with_reducible rfl) | (simp only [Act.put, List.setIfInBounds_toArray, List.set_cons_zero, List.set_cons_succ, i64_w, i32_w]; rfl) | rfl | skip
      refine done_ (done_of HT_.out (by kernel_rfl)) ?_
      try go_wp2
      go_meet
      case rel => exact ⟨_, (true), (by first | rfl | (simp; done) | (simp [*]; done)), H', ⟨by first | omega | exact Nat.le_refl _⟩, ⟨by (with_reducible repeat (first | apply aR1 | apply aR2 | apply aR3)); exact Kd.R_mono HO325.out (fun _ hk => ⟨hk.1.1.1.1.1.1.2, hk.1.1.1.2⟩)⟩, ⟨by (with_reducible repeat (first | apply aR1 | apply aR2 | apply aR3)); exact Kd.R_mono HO329.out (fun _ hk => ⟨hk.1.1.1.1.1.1.2, hk.1.1.1.2⟩)⟩, ⟨by (with_reducible repeat (first | refine aB1 ?_ _ | refine aB2 ?_ | refine aB3 ?_ _)); exact BK339.out⟩, ⟨by repeat (first | (with_reducible first | exact HB.out | apply aW1 | apply aW2 | apply aW3 | refine below_set ?_ GE339.out) | exact HB.out)⟩⟩
     ·rw [if_neg c32] at H
      have c32b0 : (t355 != t356) = false := by simpa using c32
      (try (have c32b1 : decide (t355 = t356) = true := by simpa using c32))
      (try (have c32b2 : (t355 == t356) = true := by simpa using c32))
      clear c32; replace H := Option.bind_eq_some_iff.mp H; obtain ⟨t357, A390, H⟩ := H; try dsimp only at H
      have A39 := aM A390
      clear A390; replace H := Option.bind_eq_some_iff.mp H; obtain ⟨t358, A400, H⟩ := H; try dsimp only at H
      have A40 := aM A400
      clear A400
      by_cases c41 : (t357 != t358) = true
      ·rw [if_pos c41] at H
       have c41b0 : (t357 != t358) = true := c41
       (try (have c41b1 : decide (t357 = t358) = false := by simpa using c41))
       (try (have c41b2 : (t357 == t358) = false := by simpa using c41))
       (try (have c41b3 : ¬ (t357 = t358) := by simpa using c41))
       clear c41
       have H' := aM H
       clear H
       try go_wp2
       have n0_ := aM (Kd.R_drew HO325.out)
       have n1_ := aM (Kd.R_drew HO329.out)
       have n2_ := aM (Kd.R_drew HO333.out)
       have n3_ := aM (Kd.R_drew HO336.out)
       have n4_ := aM (Kd.R_drew HO343.out)
       have n5_ := aM (Kd.R_drew HO345.out)
       have n6_ := aM (Kd.R_drew HO349.out)
       have n7_ := aM (blk_drew BK339.out)
       have n8_ := aM (below_drew1 HB.out)
       clear HO325 HO329 HO333 HO336 HO343 HO345 HO349 BK339 HB; have HO325 := n0_; have HO329 := n1_; have HO333 := n2_; have HO336 := n3_; have HO343 := n4_; have HO345 := n5_; have HO349 := n6_; have BK339 := n7_; have HB := n8_; clear n0_ n1_ n2_ n3_ n4_ n5_ n6_ n7_ n8_
       obtain ⟨Ao43, co43, eo43⟩ := Kd.R_slice HO329.out
       (first | subst eo43 | (injection eo43 with f1_ f2_ f3_; have f4_ := f1_.symm; have f5_ := f3_.symm; clear f1_ f2_ f3_; subst f4_; subst f5_))
       obtain ⟨Ao44, co44, eo44⟩ := Kd.R_slice HO333.out
       (first | subst eo44 | (injection eo44 with f1_ f2_ f3_; have f4_ := f1_.symm; have f5_ := f3_.symm; clear f1_ f2_ f3_; subst f4_; subst f5_))
       refine start_ (n := 42) (S := fun w' => w'.cell? ⟨gb339, 0, none⟩ = some (.string t337) ∧ w'.cell? ⟨gb339, 1, none⟩ = some (.string t338)) (ds := []) (bz 42 0) (by kernel_rfl) rfl (by kernel_rfl) ⟨(blk_cell BK339.out 0).trans rfl, (blk_cell BK339.out 1).trans rfl⟩ (fun hHeld => ?_); refine with_tabW laws_FnSets.tab12 laws_FnSets.bits12 (fun HT_ HW_ => ?_)
       generalize w25.drew = w42 at HO325 HO329 HO333 HO336 HO343 HO345 HO349 BK339 HB hHeld ⊢
       refine (pu 0 (some 63) 1 ?_ ?_ HT_ rfl rfl (by kernel_rfl) (fun _ _ _ h => h) ?_ ?_ ?_ (pu 1 (some 64) 3 ?_ ?_ HT_ rfl rfl (by kernel_rfl) (fun _ _ _ h => h) ?_ ?_ ?_ (pu 2 (some 65) 7 ?_ ?_ HT_ rfl rfl (by kernel_rfl) (fun _ _ _ h => h) ?_ ?_ ?_ (pu 3 (some 66) 15 ?_ ?_ HT_ rfl rfl (by kernel_rfl) (fun _ _ _ h => h) ?_ ?_ ?_ (pu 4 (some 67) 31 ?_ ?_ HT_ rfl rfl (by kernel_rfl) (fun _ _ _ h => h) ?_ ?_ ?_ (pu 5 (some 68) 63 ?_ ?_ HT_ rfl rfl (by kernel_rfl) (fun _ _ _ h => h) ?_ ?_ ?_ ?_))))))
       all_goals first | (intro w'; go_simp; with_reducible rfl) | (simp only [Act.put, List.setIfInBounds_toArray, List.set_cons_zero, List.set_cons_succ, i64_w, i32_w]; rfl) | rfl | skip
       refine one_ (i := 6) (N := some 69) (bz 42 127) rfl rfl (one_of HT_.out (by kernel_rfl)) (by decide) (fun K hK => ?_)
       refine goes_ Try.func28 (by kernel_rfl) rfl #[.slice Ao43 t326.length co43, .slice Ao44 t330.length co44] (by rfl) rfl rfl (by (try simp only [List.map_toArray, List.map_cons, List.map_nil]); first | done | rfl | (simp only [List.length_drop, List.length_take]; rfl)) ?_
       with_reducible refine (impl_SameSet.calls k _ _ t326 _ _ t330 true _ ?side1 ?side2 ?side3 ?side4 A28.out).mono ?_
       (case side1 => repeat (first | exact (Kd.R_reads' HO329.out).2.2 | (with_reducible refine Kd.C_alloc ?_ _) | (with_reducible refine Kd.C_drewN ?_ _) | (with_reducible refine Kd.C_drew ?_)))
       (case side2 => exact (Kd.R_reads' HO329.out).2.1)
       (case side3 => repeat (first | exact (Kd.R_reads' HO333.out).2.2 | (with_reducible refine Kd.C_alloc ?_ _) | (with_reducible refine Kd.C_drewN ?_ _) | (with_reducible refine Kd.C_drew ?_)))
       (case side4 => exact (Kd.R_reads' HO333.out).2.1)
       rintro e w' ⟨rfl, ⟨nd, rfl⟩⟩
       refine ⟨_, rfl, ?_⟩
       obtain ⟨Ao45, co45, eo45⟩ := Kd.R_slice HO336.out
       (first | subst eo45 | (injection eo45 with f1_ f2_ f3_; have f4_ := f1_.symm; have f5_ := f3_.symm; clear f1_ f2_ f3_; subst f4_; subst f5_))
       refine hK.out _ _ ⟨(blk_cell BK339.out 0).trans rfl, (blk_cell BK339.out 1).trans rfl⟩ (fun hHeld => ?_)
       clear hK K
       refine norm_ (a' := ?_) ?_ ?_
       rotate_left
       ·show Act.put _ (some 69) _ = _
        simp only [Act.put, List.setIfInBounds_toArray, List.set_cons_zero, List.set_cons_succ, i64_w, i32_w]
        rfl
       refine (pu 7 (some 70) 255 ?_ ?_ HT_ rfl rfl (by kernel_rfl) (fun _ _ _ h => h) ?_ ?_ ?_ (pu 8 (some 71) 511 ?_ ?_ HT_ rfl rfl (by kernel_rfl) (fun _ _ _ h => h) ?_ ?_ ?_ (pu 9 (some 72) 1023 ?_ ?_ HT_ rfl rfl (by kernel_rfl) (fun _ _ _ h => h) ?_ ?_ ?_ (pu 10 (some 73) 2047 ?_ ?_ HT_ rfl rfl (by kernel_rfl) (fun _ _ _ h => h) ?_ ?_ ?_ (pu 12 (some 75) 6143 ?_ ?_ HT_ rfl rfl (by kernel_rfl) (fun _ _ _ h => h) ?_ ?_ ?_ ?_)))))
       all_goals first | (intro w'; go_simp; with_reducible rfl) | (simp only [Act.put, List.setIfInBounds_toArray, List.set_cons_zero, List.set_cons_succ, i64_w, i32_w]; rfl) | rfl | skip
       refine one_ (i := 11) (N := some 74) (bz 42 8191) rfl rfl (one_of HT_.out (by kernel_rfl)) (by decide) (fun K hK => ?_)
       refine goes_ Try.func27 (by kernel_rfl) rfl #[.slice Ao45 t334.length co45] (by rfl) rfl rfl (by (try simp only [List.map_toArray, List.map_cons, List.map_nil]); first | done | rfl | (simp only [List.length_drop, List.length_take]; rfl)) ?_
       with_reducible refine (impl_SetOk.calls k _ _ t334 t355 _ ?side1 ?side2 A30.out).mono ?_
       (case side1 => repeat (first | exact (Kd.R_reads' HO336.out).2.2 | (with_reducible refine Kd.C_alloc ?_ _) | (with_reducible refine Kd.C_drewN ?_ _) | (with_reducible refine Kd.C_drew ?_)))
       (case side2 => exact (Kd.R_reads' HO336.out).2.1)
       rintro e w46 ⟨rfl, hb⟩
       refine ⟨_, rfl, ?_⟩
       have n0_ := rb HO325 hb; have n1_ := rb HO329 hb; have n2_ := rb HO333 hb; have n3_ := rb HO336 hb; have n4_ := rb HO343 hb; have n5_ := rb HO345 hb; have n6_ := rb HO349 hb; have n7_ := bb BK339 hb
       have n8_ := aM (below_step (by repeat (first | (with_reducible first | exact HB.out | apply aW1 | apply aW2 | apply aW3 | refine below_set ?_ GE339.out) | exact HB.out)) hb)
       clear HO325 HO329 HO333 HO336 HO343 HO345 HO349 BK339 HB; have HO325 := n0_; have HO329 := n1_; have HO333 := n2_; have HO336 := n3_; have HO343 := n4_; have HO345 := n5_; have HO349 := n6_; have BK339 := n7_; have HB := n8_; clear n0_ n1_ n2_ n3_ n4_ n5_ n6_ n7_ n8_
       (try clear hb)
       (try clear hb2)
       (try clear hk)
       (try clear hi)
       refine hK.out _ _ ⟨(blk_cell BK339.out 0).trans rfl, (blk_cell BK339.out 1).trans rfl⟩ (fun hHeld => ?_)
       clear hK K
       refine norm_ (a' := ?_) ?_ ?_
       rotate_left
       ·show Act.put _ (some 74) _ = _
        simp only [Act.put, List.setIfInBounds_toArray, List.set_cons_zero, List.set_cons_succ, i64_w, i32_w]
        rfl
       refine one_ (i := 13) (N := some 76) (bz 42 16383) rfl rfl (one_of HT_.out (by kernel_rfl)) (by decide) (fun K hK => ?_)
       refine goes_ Try.func76 (by kernel_rfl) rfl #[.slice Ao45 t334.length co45] (by rfl) rfl rfl (by (try simp only [List.map_toArray, List.map_cons, List.map_nil]); first | done | rfl | (simp only [List.length_drop, List.length_take]; rfl)) ?_
       with_reducible refine (spec_SetOk.calls k _ _ t334 t356 _ ?side1 ?side2 A31.out).mono ?_
       (case side1 => repeat (first | exact (Kd.R_reads' HO336.out).2.2 | (with_reducible refine Kd.C_alloc ?_ _) | (with_reducible refine Kd.C_drewN ?_ _) | (with_reducible refine Kd.C_drew ?_)))
       (case side2 => exact (Kd.R_reads' HO336.out).2.1)
       rintro e w47 ⟨rfl, hb⟩
       refine ⟨_, rfl, ?_⟩
       have n0_ := rb HO325 hb; have n1_ := rb HO329 hb; have n2_ := rb HO333 hb; have n3_ := rb HO336 hb; have n4_ := rb HO343 hb; have n5_ := rb HO345 hb; have n6_ := rb HO349 hb; have n7_ := bb BK339 hb
       have n8_ := aM (below_step (by repeat (first | (with_reducible first | exact HB.out | apply aW1 | apply aW2 | apply aW3 | refine below_set ?_ GE339.out) | exact HB.out)) hb)
       clear HO325 HO329 HO333 HO336 HO343 HO345 HO349 BK339 HB; have HO325 := n0_; have HO329 := n1_; have HO333 := n2_; have HO336 := n3_; have HO343 := n4_; have HO345 := n5_; have HO349 := n6_; have BK339 := n7_; have HB := n8_; clear n0_ n1_ n2_ n3_ n4_ n5_ n6_ n7_ n8_
       (try clear hb)
       (try clear hb2)
       (try clear hk)
       (try clear hi)
       refine hK.out _ _ ⟨(blk_cell BK339.out 0).trans rfl, (blk_cell BK339.out 1).trans rfl⟩ (fun hHeld => ?_)
       clear hK K
       refine norm_ (a' := ?_) ?_ ?_
       rotate_left
       ·show Act.put _ (some 76) _ = _
        simp only [Act.put, List.setIfInBounds_toArray, List.set_cons_zero, List.set_cons_succ, i64_w, i32_w]
        rfl
       refine (pu 14 (some 77) 32767 ?_ ?_ HT_ rfl rfl (by kernel_rfl) (fun _ _ _ h => h) ?_ ?_ ?_ (pu 15 (some 78) 65535 ?_ ?_ HT_ rfl rfl (by kernel_rfl) (fun _ _ _ h => h) ?_ ?_ ?_ (pu 16 (some 79) 131071 ?_ ?_ HT_ rfl rfl (by kernel_rfl) (fun _ _ _ h => h) ?_ ?_ ?_ (tk 17 (some 80) 262143 ?_ ?_ HT_ HW_ rfl rfl (by kernel_rfl) (fun _ _ _ h => h) hHeld ?_ ?_ ?_ (tk 19 (some 82) 786431 ?_ ?_ HT_ HW_ rfl rfl (by kernel_rfl) (fun _ _ _ h => h) hHeld ?_ ?_ ?_ ?_)))))
       all_goals first | (rintro w' ⟨s0, s1⟩; go_simp; with_reducible rfl) | (intro w'; go_simp; with_reducible rfl) | (simp only [Act.put, List.setIfInBounds_toArray, List.set_cons_zero, List.set_cons_succ, i64_w, i32_w]; rfl) | rfl | skip
       refine one_ (i := 18) (N := some 81) (bz 42 1048575) rfl rfl (one_of HT_.out (by kernel_rfl)) (by decide) (fun K hK => ?_)
       refine goes_ Try.func77 (by kernel_rfl) rfl #[.agg #[.string t337, .string t338]] (by rfl) rfl rfl (by (try simp only [List.map_toArray, List.map_cons, List.map_nil]); first | done | rfl | (simp only [List.length_drop, List.length_take]; rfl)) ?_
       with_reducible refine (impl_LabelOk.calls k t337 t338 t357 _ A39.out).mono ?_
       rintro e w48 ⟨rfl, hb⟩
       refine ⟨_, rfl, ?_⟩
       have n0_ := rb HO325 hb; have n1_ := rb HO329 hb; have n2_ := rb HO333 hb; have n3_ := rb HO336 hb; have n4_ := rb HO343 hb; have n5_ := rb HO345 hb; have n6_ := rb HO349 hb; have n7_ := bb BK339 hb
       have n8_ := aM (below_step (by repeat (first | (with_reducible first | exact HB.out | apply aW1 | apply aW2 | apply aW3 | refine below_set ?_ GE339.out) | exact HB.out)) hb)
       clear HO325 HO329 HO333 HO336 HO343 HO345 HO349 BK339 HB; have HO325 := n0_; have HO329 := n1_; have HO333 := n2_; have HO336 := n3_; have HO343 := n4_; have HO345 := n5_; have HO349 := n6_; have BK339 := n7_; have HB := n8_; clear n0_ n1_ n2_ n3_ n4_ n5_ n6_ n7_ n8_
       (try clear hb)
       (try clear hb2)
       (try clear hk)
       (try clear hi)
       refine hK.out _ _ ⟨(blk_cell BK339.out 0).trans rfl, (blk_cell BK339.out 1).trans rfl⟩ (fun hHeld => ?_)
       clear hK K
       refine norm_ (a' := ?_) ?_ ?_
       rotate_left
       ·show Act.put _ (some 81) _ = _
        simp only [Act.put, List.setIfInBounds_toArray, List.set_cons_zero, List.set_cons_succ, i64_w, i32_w]
        rfl
       refine one_ (i := 20) (N := some 83) (bz 42 2097151) rfl rfl (one_of HT_.out (by kernel_rfl)) (by decide) (fun K hK => ?_)
       refine goes_ Try.func78 (by kernel_rfl) rfl #[.agg #[.string t337, .string t338]] (by rfl) rfl rfl (by (try simp only [List.map_toArray, List.map_cons, List.map_nil]); first | done | rfl | (simp only [List.length_drop, List.length_take]; rfl)) ?_
       with_reducible refine (spec_LabelOk.calls k t337 t338 t358 _ A40.out).mono ?_
       rintro e w49 ⟨rfl, hb⟩
       refine ⟨_, rfl, ?_⟩
       have n0_ := rb HO325 hb; have n1_ := rb HO329 hb; have n2_ := rb HO333 hb; have n3_ := rb HO336 hb; have n4_ := rb HO343 hb; have n5_ := rb HO345 hb; have n6_ := rb HO349 hb; have n7_ := bb BK339 hb
       have n8_ := aM (below_step (by repeat (first | (with_reducible first | exact HB.out | apply aW1 | apply aW2 | apply aW3 | refine below_set ?_ GE339.out) | exact HB.out)) hb)
       clear HO325 HO329 HO333 HO336 HO343 HO345 HO349 BK339 HB; have HO325 := n0_; have HO329 := n1_; have HO333 := n2_; have HO336 := n3_; have HO343 := n4_; have HO345 := n5_; have HO349 := n6_; have BK339 := n7_; have HB := n8_; clear n0_ n1_ n2_ n3_ n4_ n5_ n6_ n7_ n8_
       (try clear hb)
       (try clear hb2)
       (try clear hk)
       (try clear hi)
       refine hK.out _ _ ⟨(blk_cell BK339.out 0).trans rfl, (blk_cell BK339.out 1).trans rfl⟩ (fun hHeld => ?_)
       clear hK K
       refine norm_ (a' := ?_) ?_ ?_
       rotate_left
       ·show Act.put _ (some 83) _ = _
        simp only [Act.put, List.setIfInBounds_toArray, List.set_cons_zero, List.set_cons_succ, i64_w, i32_w]
        rfl
       refine (pu 21 (some 84) 4194303 ?_ ?_ HT_ rfl rfl (by kernel_rfl) (fun _ _ _ h => h) ?_ ?_ ?_ (pu 22 (some 85) 8388607 ?_ ?_ HT_ rfl rfl (by kernel_rfl) (fun _ _ _ h => h) ?_ ?_ ?_ (pu 23 (some 86) 16777215 ?_ ?_ HT_ rfl rfl (by kernel_rfl) (fun _ _ _ h => h) ?_ ?_ ?_ (po 24 (some 87) 33554431 ?_ HT_ rfl rfl (by kernel_rfl) (fun _ _ _ h => h) ?_ ?_ (po 25 (some 88) 67108863 ?_ HT_ rfl rfl (by kernel_rfl) (fun _ _ _ h => h) ?_ ?_ (po 26 (some 89) 134217727 ?_ HT_ rfl rfl (by kernel_rfl) (fun _ _ _ h => h) ?_ ?_ (po 27 (some 90) 268435455 ?_ HT_ rfl rfl (by kernel_rfl) (fun _ _ _ h => h) ?_ ?_ (po 28 (some 91) 536870911 ?_ HT_ rfl rfl (by kernel_rfl) (fun _ _ _ h => h) ?_ ?_ (po 29 (some 92) 1073741823 ?_ HT_ rfl rfl (by kernel_rfl) (fun _ _ _ h => h) ?_ ?_ (po 30 (some 93) 2147483647 ?_ HT_ rfl rfl (by kernel_rfl) (fun _ _ _ h => h) ?_ ?_ (pu 31 (some 94) 4294967295 ?_ ?_ HT_ rfl rfl (by kernel_rfl) (fun _ _ _ h => h) ?_ ?_ ?_ (pu 32 (some 95) 8589934591 ?_ ?_ HT_ rfl rfl (by kernel_rfl) (fun _ _ _ h => h) ?_ ?_ ?_ (po 33 (some 96) 17179869183 ?_ HT_ rfl rfl (by kernel_rfl) (fun _ _ _ h => h) ?_ ?_ (po 34 (some 97) 34359738367 ?_ HT_ rfl rfl (by kernel_rfl) (fun _ _ _ h => h) ?_ ?_ (po 35 (some 98) 68719476735 ?_ HT_ rfl rfl (by kernel_rfl) (fun _ _ _ h => h) ?_ ?_ (pu 36 (some 99) 137438953471 ?_ ?_ HT_ rfl rfl (by kernel_rfl) (fun _ _ _ h => h) ?_ ?_ ?_ (pu 37 (some 100) 274877906943 ?_ ?_ HT_ rfl rfl (by kernel_rfl) (fun _ _ _ h => h) ?_ ?_ ?_ (po 38 (some 101) 549755813887 ?_ HT_ rfl rfl (by kernel_rfl) (fun _ _ _ h => h) ?_ ?_ (po 39 (some 102) 1099511627775 ?_ HT_ rfl rfl (by kernel_rfl) (fun _ _ _ h => h) ?_ ?_ (po 40 (some 103) 2199023255551 ?_ HT_ rfl rfl (by kernel_rfl) (fun _ _ _ h => h) ?_ ?_ (pu 41 (some 104) 4398046511103 ?_ ?_ HT_ rfl rfl (by kernel_rfl) (fun _ _ _ h => h) ?_ ?_ ?_ ?_)))))))))))))))))))))
       all_goals first | (intro w'; go_simp; with_reducible rfl) | (simp only [Act.put, List.setIfInBounds_toArray, List.set_cons_zero, List.set_cons_succ, i64_w, i32_w]; rfl) | rfl | skip
       refine done_ (done_of HT_.out (by kernel_rfl)) ?_
       try go_wp2
       go_meet
       case rel => exact ⟨_, (true), (by first | rfl | (simp; done) | (simp [*]; done)), H', ⟨by first | omega | exact Nat.le_refl _⟩, ⟨by (with_reducible repeat (first | apply aR1 | apply aR2 | apply aR3)); exact Kd.R_mono HO325.out (fun _ hk => ⟨hk.1.1.1.1.1.1.2, hk.1.1.1.2⟩)⟩, ⟨by (with_reducible repeat (first | apply aR1 | apply aR2 | apply aR3)); exact Kd.R_mono HO329.out (fun _ hk => ⟨hk.1.1.1.1.1.1.2, hk.1.1.1.2⟩)⟩, ⟨by (with_reducible repeat (first | refine aB1 ?_ _ | refine aB2 ?_ | refine aB3 ?_ _)); exact BK339.out⟩, ⟨by repeat (first | (with_reducible first | exact HB.out | apply aW1 | apply aW2 | apply aW3 | refine below_set ?_ GE339.out) | exact HB.out)⟩⟩
      ·rw [if_neg c41] at H
       have c41b0 : (t357 != t358) = false := by simpa using c41
       (try (have c41b1 : decide (t357 = t358) = true := by simpa using c41))
       (try (have c41b2 : (t357 == t358) = true := by simpa using c41))
       clear c41; replace H := Option.bind_eq_some_iff.mp H; obtain ⟨t359, A500, H⟩ := H; try dsimp only at H
       have A50 := aM A500
       clear A500; replace H := Option.bind_eq_some_iff.mp H; obtain ⟨t360, A510, H⟩ := H; try dsimp only at H
       have A51 := aM A510
       clear A510
       by_cases c52 : (t359 != t360) = true
       ·rw [if_pos c52] at H
        have c52b0 : (t359 != t360) = true := c52
        (try (have c52b1 : decide (t359 = t360) = false := by simpa using c52))
        (try (have c52b2 : (t359 == t360) = false := by simpa using c52))
        (try (have c52b3 : ¬ (t359 = t360) := by simpa using c52))
        clear c52
        have H' := aM H
        clear H
        try go_wp2
        have n0_ := aM (Kd.R_drew HO325.out)
        have n1_ := aM (Kd.R_drew HO329.out)
        have n2_ := aM (Kd.R_drew HO333.out)
        have n3_ := aM (Kd.R_drew HO336.out)
        have n4_ := aM (Kd.R_drew HO343.out)
        have n5_ := aM (Kd.R_drew HO345.out)
        have n6_ := aM (Kd.R_drew HO349.out)
        have n7_ := aM (blk_drew BK339.out)
        have n8_ := aM (below_drew1 HB.out)
        clear HO325 HO329 HO333 HO336 HO343 HO345 HO349 BK339 HB; have HO325 := n0_; have HO329 := n1_; have HO333 := n2_; have HO336 := n3_; have HO343 := n4_; have HO345 := n5_; have HO349 := n6_; have BK339 := n7_; have HB := n8_; clear n0_ n1_ n2_ n3_ n4_ n5_ n6_ n7_ n8_
        obtain ⟨Ao54, co54, eo54⟩ := Kd.R_slice HO329.out
        (first | subst eo54 | (injection eo54 with f1_ f2_ f3_; have f4_ := f1_.symm; have f5_ := f3_.symm; clear f1_ f2_ f3_; subst f4_; subst f5_))
        obtain ⟨Ao55, co55, eo55⟩ := Kd.R_slice HO333.out
        (first | subst eo55 | (injection eo55 with f1_ f2_ f3_; have f4_ := f1_.symm; have f5_ := f3_.symm; clear f1_ f2_ f3_; subst f4_; subst f5_))
        refine start_ (n := 42) (S := fun w' => w'.cell? ⟨gb339, 0, none⟩ = some (.string t337) ∧ w'.cell? ⟨gb339, 1, none⟩ = some (.string t338)) (ds := []) (bz 42 0) (by kernel_rfl) rfl (by kernel_rfl) ⟨(blk_cell BK339.out 0).trans rfl, (blk_cell BK339.out 1).trans rfl⟩ (fun hHeld => ?_); refine with_tabW laws_FnSets.tab12 laws_FnSets.bits12 (fun HT_ HW_ => ?_)
        generalize w25.drew = w53 at HO325 HO329 HO333 HO336 HO343 HO345 HO349 BK339 HB hHeld ⊢
        refine (pu 0 (some 63) 1 ?_ ?_ HT_ rfl rfl (by kernel_rfl) (fun _ _ _ h => h) ?_ ?_ ?_ (pu 1 (some 64) 3 ?_ ?_ HT_ rfl rfl (by kernel_rfl) (fun _ _ _ h => h) ?_ ?_ ?_ (pu 2 (some 65) 7 ?_ ?_ HT_ rfl rfl (by kernel_rfl) (fun _ _ _ h => h) ?_ ?_ ?_ (pu 3 (some 66) 15 ?_ ?_ HT_ rfl rfl (by kernel_rfl) (fun _ _ _ h => h) ?_ ?_ ?_ (pu 4 (some 67) 31 ?_ ?_ HT_ rfl rfl (by kernel_rfl) (fun _ _ _ h => h) ?_ ?_ ?_ (pu 5 (some 68) 63 ?_ ?_ HT_ rfl rfl (by kernel_rfl) (fun _ _ _ h => h) ?_ ?_ ?_ ?_))))))
        all_goals first | (intro w'; go_simp; with_reducible rfl) | (simp only [Act.put, List.setIfInBounds_toArray, List.set_cons_zero, List.set_cons_succ, i64_w, i32_w]; rfl) | rfl | skip
        refine one_ (i := 6) (N := some 69) (bz 42 127) rfl rfl (one_of HT_.out (by kernel_rfl)) (by decide) (fun K hK => ?_)
        refine goes_ Try.func28 (by kernel_rfl) rfl #[.slice Ao54 t326.length co54, .slice Ao55 t330.length co55] (by rfl) rfl rfl (by (try simp only [List.map_toArray, List.map_cons, List.map_nil]); first | done | rfl | (simp only [List.length_drop, List.length_take]; rfl)) ?_
        with_reducible refine (impl_SameSet.calls k _ _ t326 _ _ t330 true _ ?side1 ?side2 ?side3 ?side4 A28.out).mono ?_
        (case side1 => repeat (first | exact (Kd.R_reads' HO329.out).2.2 | (with_reducible refine Kd.C_alloc ?_ _) | (with_reducible refine Kd.C_drewN ?_ _) | (with_reducible refine Kd.C_drew ?_)))
        (case side2 => exact (Kd.R_reads' HO329.out).2.1)
        (case side3 => repeat (first | exact (Kd.R_reads' HO333.out).2.2 | (with_reducible refine Kd.C_alloc ?_ _) | (with_reducible refine Kd.C_drewN ?_ _) | (with_reducible refine Kd.C_drew ?_)))
        (case side4 => exact (Kd.R_reads' HO333.out).2.1)
        rintro e w' ⟨rfl, ⟨nd, rfl⟩⟩
        refine ⟨_, rfl, ?_⟩
        obtain ⟨Ao56, co56, eo56⟩ := Kd.R_slice HO336.out
        (first | subst eo56 | (injection eo56 with f1_ f2_ f3_; have f4_ := f1_.symm; have f5_ := f3_.symm; clear f1_ f2_ f3_; subst f4_; subst f5_))
        refine hK.out _ _ ⟨(blk_cell BK339.out 0).trans rfl, (blk_cell BK339.out 1).trans rfl⟩ (fun hHeld => ?_)
        clear hK K
        refine norm_ (a' := ?_) ?_ ?_
        rotate_left
        ·show Act.put _ (some 69) _ = _
         simp only [Act.put, List.setIfInBounds_toArray, List.set_cons_zero, List.set_cons_succ, i64_w, i32_w]
         rfl
        refine (pu 7 (some 70) 255 ?_ ?_ HT_ rfl rfl (by kernel_rfl) (fun _ _ _ h => h) ?_ ?_ ?_ (pu 8 (some 71) 511 ?_ ?_ HT_ rfl rfl (by kernel_rfl) (fun _ _ _ h => h) ?_ ?_ ?_ (pu 9 (some 72) 1023 ?_ ?_ HT_ rfl rfl (by kernel_rfl) (fun _ _ _ h => h) ?_ ?_ ?_ (pu 10 (some 73) 2047 ?_ ?_ HT_ rfl rfl (by kernel_rfl) (fun _ _ _ h => h) ?_ ?_ ?_ (pu 12 (some 75) 6143 ?_ ?_ HT_ rfl rfl (by kernel_rfl) (fun _ _ _ h => h) ?_ ?_ ?_ ?_)))))
        all_goals first | (intro w'; go_simp; with_reducible rfl) | (simp only [Act.put, List.setIfInBounds_toArray, List.set_cons_zero, List.set_cons_succ, i64_w, i32_w]; rfl) | rfl | skip
        refine one_ (i := 11) (N := some 74) (bz 42 8191) rfl rfl (one_of HT_.out (by kernel_rfl)) (by decide) (fun K hK => ?_)
        refine goes_ Try.func27 (by kernel_rfl) rfl #[.slice Ao56 t334.length co56] (by rfl) rfl rfl (by (try simp only [List.map_toArray, List.map_cons, List.map_nil]); first | done | rfl | (simp only [List.length_drop, List.length_take]; rfl)) ?_
        with_reducible refine (impl_SetOk.calls k _ _ t334 t355 _ ?side1 ?side2 A30.out).mono ?_
        (case side1 => repeat (first | exact (Kd.R_reads' HO336.out).2.2 | (with_reducible refine Kd.C_alloc ?_ _) | (with_reducible refine Kd.C_drewN ?_ _) | (with_reducible refine Kd.C_drew ?_)))
        (case side2 => exact (Kd.R_reads' HO336.out).2.1)
        rintro e w57 ⟨rfl, hb⟩
        refine ⟨_, rfl, ?_⟩
        have n0_ := rb HO325 hb; have n1_ := rb HO329 hb; have n2_ := rb HO333 hb; have n3_ := rb HO336 hb; have n4_ := rb HO343 hb; have n5_ := rb HO345 hb; have n6_ := rb HO349 hb; have n7_ := bb BK339 hb
        have n8_ := aM (below_step (by repeat (first | (with_reducible first | exact HB.out | apply aW1 | apply aW2 | apply aW3 | refine below_set ?_ GE339.out) | exact HB.out)) hb)
        clear HO325 HO329 HO333 HO336 HO343 HO345 HO349 BK339 HB; have HO325 := n0_; have HO329 := n1_; have HO333 := n2_; have HO336 := n3_; have HO343 := n4_; have HO345 := n5_; have HO349 := n6_; have BK339 := n7_; have HB := n8_; clear n0_ n1_ n2_ n3_ n4_ n5_ n6_ n7_ n8_
        (try clear hb)
        (try clear hb2)
        (try clear hk)
        (try clear hi)
        refine hK.out _ _ ⟨(blk_cell BK339.out 0).trans rfl, (blk_cell BK339.out 1).trans rfl⟩ (fun hHeld => ?_)
        clear hK K
        refine norm_ (a' := ?_) ?_ ?_
        rotate_left
        ·show Act.put _ (some 74) _ = _
         simp only [Act.put, List.setIfInBounds_toArray, List.set_cons_zero, List.set_cons_succ, i64_w, i32_w]
         rfl
        refine one_ (i := 13) (N := some 76) (bz 42 16383) rfl rfl (one_of HT_.out (by kernel_rfl)) (by decide) (fun K hK => ?_)
        refine goes_ Try.func76 (by kernel_rfl) rfl #[.slice Ao56 t334.length co56] (by rfl) rfl rfl (by (try simp only [List.map_toArray, List.map_cons, List.map_nil]); first | done | rfl | (simp only [List.length_drop, List.length_take]; rfl)) ?_
        with_reducible refine (spec_SetOk.calls k _ _ t334 t356 _ ?side1 ?side2 A31.out).mono ?_
        (case side1 => repeat (first | exact (Kd.R_reads' HO336.out).2.2 | (with_reducible refine Kd.C_alloc ?_ _) | (with_reducible refine Kd.C_drewN ?_ _) | (with_reducible refine Kd.C_drew ?_)))
        (case side2 => exact (Kd.R_reads' HO336.out).2.1)
        rintro e w58 ⟨rfl, hb⟩
        refine ⟨_, rfl, ?_⟩
        have n0_ := rb HO325 hb; have n1_ := rb HO329 hb; have n2_ := rb HO333 hb; have n3_ := rb HO336 hb; have n4_ := rb HO343 hb; have n5_ := rb HO345 hb; have n6_ := rb HO349 hb; have n7_ := bb BK339 hb
        have n8_ := aM (below_step (by repeat (first | (with_reducible first | exact HB.out | apply aW1 | apply aW2 | apply aW3 | refine below_set ?_ GE339.out) | exact HB.out)) hb)
        clear HO325 HO329 HO333 HO336 HO343 HO345 HO349 BK339 HB; have HO325 := n0_; have HO329 := n1_; have HO333 := n2_; have HO336 := n3_; have HO343 := n4_; have HO345 := n5_; have HO349 := n6_; have BK339 := n7_; have HB := n8_; clear n0_ n1_ n2_ n3_ n4_ n5_ n6_ n7_ n8_
        (try clear hb)
        (try clear hb2)
        (try clear hk)
        (try clear hi)
        refine hK.out _ _ ⟨(blk_cell BK339.out 0).trans rfl, (blk_cell BK339.out 1).trans rfl⟩ (fun hHeld => ?_)
        clear hK K
        refine norm_ (a' := ?_) ?_ ?_
        rotate_left
        ·show Act.put _ (some 76) _ = _
         simp only [Act.put, List.setIfInBounds_toArray, List.set_cons_zero, List.set_cons_succ, i64_w, i32_w]
         rfl
        refine (pu 14 (some 77) 32767 ?_ ?_ HT_ rfl rfl (by kernel_rfl) (fun _ _ _ h => h) ?_ ?_ ?_ (pu 15 (some 78) 65535 ?_ ?_ HT_ rfl rfl (by kernel_rfl) (fun _ _ _ h => h) ?_ ?_ ?_ (pu 16 (some 79) 131071 ?_ ?_ HT_ rfl rfl (by kernel_rfl) (fun _ _ _ h => h) ?_ ?_ ?_ (tk 17 (some 80) 262143 ?_ ?_ HT_ HW_ rfl rfl (by kernel_rfl) (fun _ _ _ h => h) hHeld ?_ ?_ ?_ (tk 19 (some 82) 786431 ?_ ?_ HT_ HW_ rfl rfl (by kernel_rfl) (fun _ _ _ h => h) hHeld ?_ ?_ ?_ ?_)))))
        all_goals first | (rintro w' ⟨s0, s1⟩; go_simp; with_reducible rfl) | (intro w'; go_simp; with_reducible rfl) | (simp only [Act.put, List.setIfInBounds_toArray, List.set_cons_zero, List.set_cons_succ, i64_w, i32_w]; rfl) | rfl | skip
        refine one_ (i := 18) (N := some 81) (bz 42 1048575) rfl rfl (one_of HT_.out (by kernel_rfl)) (by decide) (fun K hK => ?_)
        refine goes_ Try.func77 (by kernel_rfl) rfl #[.agg #[.string t337, .string t338]] (by rfl) rfl rfl (by (try simp only [List.map_toArray, List.map_cons, List.map_nil]); first | done | rfl | (simp only [List.length_drop, List.length_take]; rfl)) ?_
        with_reducible refine (impl_LabelOk.calls k t337 t338 t357 _ A39.out).mono ?_
        rintro e w59 ⟨rfl, hb⟩
        refine ⟨_, rfl, ?_⟩
        have n0_ := rb HO325 hb; have n1_ := rb HO329 hb; have n2_ := rb HO333 hb; have n3_ := rb HO336 hb; have n4_ := rb HO343 hb; have n5_ := rb HO345 hb; have n6_ := rb HO349 hb; have n7_ := bb BK339 hb
        have n8_ := aM (below_step (by repeat (first | (with_reducible first | exact HB.out | apply aW1 | apply aW2 | apply aW3 | refine below_set ?_ GE339.out) | exact HB.out)) hb)
        clear HO325 HO329 HO333 HO336 HO343 HO345 HO349 BK339 HB; have HO325 := n0_; have HO329 := n1_; have HO333 := n2_; have HO336 := n3_; have HO343 := n4_; have HO345 := n5_; have HO349 := n6_; have BK339 := n7_; have HB := n8_; clear n0_ n1_ n2_ n3_ n4_ n5_ n6_ n7_ n8_
        (try clear hb)
        (try clear hb2)
        (try clear hk)
        (try clear hi)
        refine hK.out _ _ ⟨(blk_cell BK339.out 0).trans rfl, (blk_cell BK339.out 1).trans rfl⟩ (fun hHeld => ?_)
        clear hK K
        refine norm_ (a' := ?_) ?_ ?_
        rotate_left
        ·show Act.put _ (some 81) _ = _
         simp only [Act.put, List.setIfInBounds_toArray, List.set_cons_zero, List.set_cons_succ, i64_w, i32_w]
         rfl
        refine one_ (i := 20) (N := some 83) (bz 42 2097151) rfl rfl (one_of HT_.out (by kernel_rfl)) (by decide) (fun K hK => ?_)
        refine goes_ Try.func78 (by kernel_rfl) rfl #[.agg #[.string t337, .string t338]] (by rfl) rfl rfl (by (try simp only [List.map_toArray, List.map_cons, List.map_nil]); first | done | rfl | (simp only [List.length_drop, List.length_take]; rfl)) ?_
        with_reducible refine (spec_LabelOk.calls k t337 t338 t358 _ A40.out).mono ?_
        rintro e w60 ⟨rfl, hb⟩
        refine ⟨_, rfl, ?_⟩
        have n0_ := rb HO325 hb; have n1_ := rb HO329 hb; have n2_ := rb HO333 hb; have n3_ := rb HO336 hb; have n4_ := rb HO343 hb; have n5_ := rb HO345 hb; have n6_ := rb HO349 hb; have n7_ := bb BK339 hb
        have n8_ := aM (below_step (by repeat (first | (with_reducible first | exact HB.out | apply aW1 | apply aW2 | apply aW3 | refine below_set ?_ GE339.out) | exact HB.out)) hb)
        clear HO325 HO329 HO333 HO336 HO343 HO345 HO349 BK339 HB; have HO325 := n0_; have HO329 := n1_; have HO333 := n2_; have HO336 := n3_; have HO343 := n4_; have HO345 := n5_; have HO349 := n6_; have BK339 := n7_; have HB := n8_; clear n0_ n1_ n2_ n3_ n4_ n5_ n6_ n7_ n8_
        (try clear hb)
        (try clear hb2)
        (try clear hk)
        (try clear hi)
        obtain ⟨Ao61, co61, eo61⟩ := Kd.R_slice HO343.out
        (first | subst eo61 | (injection eo61 with f1_ f2_ f3_; have f4_ := f1_.symm; have f5_ := f3_.symm; clear f1_ f2_ f3_; subst f4_; subst f5_))
        obtain ⟨Ao62, co62, eo62⟩ := Kd.R_slice HO345.out
        (first | subst eo62 | (injection eo62 with f1_ f2_ f3_; have f4_ := f1_.symm; have f5_ := f3_.symm; clear f1_ f2_ f3_; subst f4_; subst f5_))
        refine hK.out _ _ ⟨(blk_cell BK339.out 0).trans rfl, (blk_cell BK339.out 1).trans rfl⟩ (fun hHeld => ?_)
        clear hK K
        refine norm_ (a' := ?_) ?_ ?_
        rotate_left
        ·show Act.put _ (some 83) _ = _
         simp only [Act.put, List.setIfInBounds_toArray, List.set_cons_zero, List.set_cons_succ, i64_w, i32_w]
         rfl
        refine (pu 21 (some 84) 4194303 ?_ ?_ HT_ rfl rfl (by kernel_rfl) (fun _ _ _ h => h) ?_ ?_ ?_ (pu 22 (some 85) 8388607 ?_ ?_ HT_ rfl rfl (by kernel_rfl) (fun _ _ _ h => h) ?_ ?_ ?_ (pu 23 (some 86) 16777215 ?_ ?_ HT_ rfl rfl (by kernel_rfl) (fun _ _ _ h => h) ?_ ?_ ?_ (pu 24 (some 87) 33554431 ?_ ?_ HT_ rfl rfl (by kernel_rfl) (fun _ _ _ h => h) ?_ ?_ ?_ (pu 25 (some 88) 67108863 ?_ ?_ HT_ rfl rfl (by kernel_rfl) (fun _ _ _ h => h) ?_ ?_ ?_ (pu 27 (some 90) 201326591 ?_ ?_ HT_ rfl rfl (by kernel_rfl) (fun _ _ _ h => h) ?_ ?_ ?_ (pu 28 (some 91) 469762047 ?_ ?_ HT_ rfl rfl (by kernel_rfl) (fun _ _ _ h => h) ?_ ?_ ?_ ?_)))))))
        all_goals first | (intro w'; go_simp; with_reducible rfl) | (simp only [Act.put, List.setIfInBounds_toArray, List.set_cons_zero, List.set_cons_succ, i64_w, i32_w]; rfl) | rfl | skip
        refine one_ (i := 26) (N := some 89) (bz 42 536870911) rfl rfl (one_of HT_.out (by kernel_rfl)) (by decide) (fun K hK => ?_)
        refine goes_ Try.func28 (by kernel_rfl) rfl #[.slice Ao61 t340.length co61, .slice Ao62 t341.length co62] (by rfl) rfl rfl (by (try simp only [List.map_toArray, List.map_cons, List.map_nil]); first | done | rfl | (simp only [List.length_drop, List.length_take]; rfl)) ?_
        with_reducible refine (impl_SameSet.calls k _ _ t340 _ _ t341 t359 _ ?side1 ?side2 ?side3 ?side4 A50.out).mono ?_
        (case side1 => repeat (first | exact (Kd.R_reads' HO343.out).2.2 | (with_reducible refine Kd.C_alloc ?_ _) | (with_reducible refine Kd.C_drewN ?_ _) | (with_reducible refine Kd.C_drew ?_)))
        (case side2 => exact (Kd.R_reads' HO343.out).2.1)
        (case side3 => repeat (first | exact (Kd.R_reads' HO345.out).2.2 | (with_reducible refine Kd.C_alloc ?_ _) | (with_reducible refine Kd.C_drewN ?_ _) | (with_reducible refine Kd.C_drew ?_)))
        (case side4 => exact (Kd.R_reads' HO345.out).2.1)
        rintro e w' ⟨rfl, ⟨nd, rfl⟩⟩
        refine ⟨_, rfl, ?_⟩
        refine hK.out _ _ ⟨(blk_cell BK339.out 0).trans rfl, (blk_cell BK339.out 1).trans rfl⟩ (fun hHeld => ?_)
        clear hK K
        refine norm_ (a' := ?_) ?_ ?_
        rotate_left
        ·show Act.put _ (some 89) _ = _
         simp only [Act.put, List.setIfInBounds_toArray, List.set_cons_zero, List.set_cons_succ, i64_w, i32_w]
         rfl
        refine one_ (i := 29) (N := some 92) (bz 42 1073741823) rfl rfl (one_of HT_.out (by kernel_rfl)) (by decide) (fun K hK => ?_)
        refine goes_ Try.func79 (by kernel_rfl) rfl #[.slice Ao61 t340.length co61, .slice Ao62 t341.length co62] (by rfl) rfl rfl (by (try simp only [List.map_toArray, List.map_cons, List.map_nil]); first | done | rfl | (simp only [List.length_drop, List.length_take]; rfl)) ?_
        with_reducible refine (spec_SameSet.calls k _ _ t340 _ _ t341 t360 _ ?side1 ?side2 ?side3 ?side4 A51.out).mono ?_
        (case side1 => repeat (first | exact (Kd.R_reads' HO343.out).2.2 | (with_reducible refine Kd.C_alloc ?_ _) | (with_reducible refine Kd.C_drewN ?_ _) | (with_reducible refine Kd.C_drew ?_)))
        (case side2 => exact (Kd.R_reads' HO343.out).2.1)
        (case side3 => repeat (first | exact (Kd.R_reads' HO345.out).2.2 | (with_reducible refine Kd.C_alloc ?_ _) | (with_reducible refine Kd.C_drewN ?_ _) | (with_reducible refine Kd.C_drew ?_)))
        (case side4 => exact (Kd.R_reads' HO345.out).2.1)
        rintro e w' ⟨rfl, ⟨nd, rfl⟩⟩
        refine ⟨_, rfl, ?_⟩
        refine hK.out _ _ ⟨(blk_cell BK339.out 0).trans rfl, (blk_cell BK339.out 1).trans rfl⟩ (fun hHeld => ?_)
        clear hK K
        refine norm_ (a' := ?_) ?_ ?_
        rotate_left
        ·show Act.put _ (some 92) _ = _
         simp only [Act.put, List.setIfInBounds_toArray, List.set_cons_zero, List.set_cons_succ, i64_w, i32_w]
         rfl
        refine (pu 30 (some 93) 2147483647 ?_ ?_ HT_ rfl rfl (by kernel_rfl) (fun _ _ _ h => h) ?_ ?_ ?_ (pu 31 (some 94) 4294967295 ?_ ?_ HT_ rfl rfl (by kernel_rfl) (fun _ _ _ h => h) ?_ ?_ ?_ (pu 32 (some 95) 8589934591 ?_ ?_ HT_ rfl rfl (by kernel_rfl) (fun _ _ _ h => h) ?_ ?_ ?_ (po 33 (some 96) 17179869183 ?_ HT_ rfl rfl (by kernel_rfl) (fun _ _ _ h => h) ?_ ?_ (po 34 (some 97) 34359738367 ?_ HT_ rfl rfl (by kernel_rfl) (fun _ _ _ h => h) ?_ ?_ (po 35 (some 98) 68719476735 ?_ HT_ rfl rfl (by kernel_rfl) (fun _ _ _ h => h) ?_ ?_ (pu 36 (some 99) 137438953471 ?_ ?_ HT_ rfl rfl (by kernel_rfl) (fun _ _ _ h => h) ?_ ?_ ?_ (pu 37 (some 100) 274877906943 ?_ ?_ HT_ rfl rfl (by kernel_rfl) (fun _ _ _ h => h) ?_ ?_ ?_ (po 38 (some 101) 549755813887 ?_ HT_ rfl rfl (by kernel_rfl) (fun _ _ _ h => h) ?_ ?_ (po 39 (some 102) 1099511627775 ?_ HT_ rfl rfl (by kernel_rfl) (fun _ _ _ h => h) ?_ ?_ (po 40 (some 103) 2199023255551 ?_ HT_ rfl rfl (by kernel_rfl) (fun _ _ _ h => h) ?_ ?_ (pu 41 (some 104) 4398046511103 ?_ ?_ HT_ rfl rfl (by kernel_rfl) (fun _ _ _ h => h) ?_ ?_ ?_ ?_))))))))))))
        all_goals first | (intro w'; go_simp; with_reducible rfl) | (simp only [Act.put, List.setIfInBounds_toArray, List.set_cons_zero, List.set_cons_succ, i64_w, i32_w]; rfl) | rfl | skip
        refine done_ (done_of HT_.out (by kernel_rfl)) ?_
        try go_wp2
        go_meet
        case rel => exact ⟨_, (true), (by first | rfl | (simp; done) | (simp [*]; done)), H', ⟨by first | omega | exact Nat.le_refl _⟩, ⟨by (with_reducible repeat (first | apply aR1 | apply aR2 | apply aR3)); exact Kd.R_mono HO325.out (fun _ hk => ⟨hk.1.1.1.1.1.1.2, hk.1.1.1.2⟩)⟩, ⟨by (with_reducible repeat (first | apply aR1 | apply aR2 | apply aR3)); exact Kd.R_mono HO329.out (fun _ hk => ⟨hk.1.1.1.1.1.1.2, hk.1.1.1.2⟩)⟩, ⟨by (with_reducible repeat (first | refine aB1 ?_ _ | refine aB2 ?_ | refine aB3 ?_ _)); exact BK339.out⟩, ⟨by repeat (first | (with_reducible first | exact HB.out | apply aW1 | apply aW2 | apply aW3 | refine below_set ?_ GE339.out) | exact HB.out)⟩⟩
       ·rw [if_neg c52] at H
        have c52b0 : (t359 != t360) = false := by simpa using c52
        (try (have c52b1 : decide (t359 = t360) = true := by simpa using c52))
        (try (have c52b2 : (t359 == t360) = true := by simpa using c52))
        clear c52
        by_cases c63 : t350.toList = t352.toList
        ·rw [if_pos c63] at H
         have c63b0 : (t350.toList == t352.toList) = true := beq_iff_eq.mpr c63
         have c63b1 : (t350.toList != t352.toList) = false := bne_eq_false_iff_eq.mpr c63
         clear c63
         have H' := aM H
         clear H
         try go_wp2
         have n0_ := aM (Kd.R_drew HO325.out)
         have n1_ := aM (Kd.R_drew HO329.out)
         have n2_ := aM (Kd.R_drew HO333.out)
         have n3_ := aM (Kd.R_drew HO336.out)
         have n4_ := aM (Kd.R_drew HO343.out)
         have n5_ := aM (Kd.R_drew HO345.out)
         have n6_ := aM (Kd.R_drew HO349.out)
         have n7_ := aM (blk_drew BK339.out)
         have n8_ := aM (below_drew1 HB.out)
         clear HO325 HO329 HO333 HO336 HO343 HO345 HO349 BK339 HB; have HO325 := n0_; have HO329 := n1_; have HO333 := n2_; have HO336 := n3_; have HO343 := n4_; have HO345 := n5_; have HO349 := n6_; have BK339 := n7_; have HB := n8_; clear n0_ n1_ n2_ n3_ n4_ n5_ n6_ n7_ n8_
         obtain ⟨Ao65, co65, eo65⟩ := Kd.R_slice HO329.out
         (first | subst eo65 | (injection eo65 with f1_ f2_ f3_; have f4_ := f1_.symm; have f5_ := f3_.symm; clear f1_ f2_ f3_; subst f4_; subst f5_))
         obtain ⟨Ao66, co66, eo66⟩ := Kd.R_slice HO333.out
         (first | subst eo66 | (injection eo66 with f1_ f2_ f3_; have f4_ := f1_.symm; have f5_ := f3_.symm; clear f1_ f2_ f3_; subst f4_; subst f5_))
         refine start_ (n := 42) (S := fun w' => w'.cell? ⟨gb339, 0, none⟩ = some (.string t337) ∧ w'.cell? ⟨gb339, 1, none⟩ = some (.string t338)) (ds := []) (bz 42 0) (by kernel_rfl) rfl (by kernel_rfl) ⟨(blk_cell BK339.out 0).trans rfl, (blk_cell BK339.out 1).trans rfl⟩ (fun hHeld => ?_); refine with_tabW laws_FnSets.tab12 laws_FnSets.bits12 (fun HT_ HW_ => ?_)
         generalize w25.drew = w64 at HO325 HO329 HO333 HO336 HO343 HO345 HO349 BK339 HB hHeld ⊢
         refine (pu 0 (some 63) 1 ?_ ?_ HT_ rfl rfl (by kernel_rfl) (fun _ _ _ h => h) ?_ ?_ ?_ (pu 1 (some 64) 3 ?_ ?_ HT_ rfl rfl (by kernel_rfl) (fun _ _ _ h => h) ?_ ?_ ?_ (pu 2 (some 65) 7 ?_ ?_ HT_ rfl rfl (by kernel_rfl) (fun _ _ _ h => h) ?_ ?_ ?_ (pu 3 (some 66) 15 ?_ ?_ HT_ rfl rfl (by kernel_rfl) (fun _ _ _ h => h) ?_ ?_ ?_ (pu 4 (some 67) 31 ?_ ?_ HT_ rfl rfl (by kernel_rfl) (fun _ _ _ h => h) ?_ ?_ ?_ (pu 5 (some 68) 63 ?_ ?_ HT_ rfl rfl (by kernel_rfl) (fun _ _ _ h => h) ?_ ?_ ?_ ?_))))))
         all_goals first | (intro w'; go_simp; with_reducible rfl) | (simp only [Act.put, List.setIfInBounds_toArray, List.set_cons_zero, List.set_cons_succ, i64_w, i32_w]; rfl) | rfl | skip
         refine one_ (i := 6) (N := some 69) (bz 42 127) rfl rfl (one_of HT_.out (by kernel_rfl)) (by decide) (fun K hK => ?_)
         refine goes_ Try.func28 (by kernel_rfl) rfl #[.slice Ao65 t326.length co65, .slice Ao66 t330.length co66] (by rfl) rfl rfl (by (try simp only [List.map_toArray, List.map_cons, List.map_nil]); first | done | rfl | (simp only [List.length_drop, List.length_take]; rfl)) ?_
         with_reducible refine (impl_SameSet.calls k _ _ t326 _ _ t330 true _ ?side1 ?side2 ?side3 ?side4 A28.out).mono ?_
         (case side1 => repeat (first | exact (Kd.R_reads' HO329.out).2.2 | (with_reducible refine Kd.C_alloc ?_ _) | (with_reducible refine Kd.C_drewN ?_ _) | (with_reducible refine Kd.C_drew ?_)))
         (case side2 => exact (Kd.R_reads' HO329.out).2.1)
         (case side3 => repeat (first | exact (Kd.R_reads' HO333.out).2.2 | (with_reducible refine Kd.C_alloc ?_ _) | (with_reducible refine Kd.C_drewN ?_ _) | (with_reducible refine Kd.C_drew ?_)))
         (case side4 => exact (Kd.R_reads' HO333.out).2.1)
         rintro e w' ⟨rfl, ⟨nd, rfl⟩⟩
         refine ⟨_, rfl, ?_⟩
         obtain ⟨Ao67, co67, eo67⟩ := Kd.R_slice HO336.out
         (first | subst eo67 | (injection eo67 with f1_ f2_ f3_; have f4_ := f1_.symm; have f5_ := f3_.symm; clear f1_ f2_ f3_; subst f4_; subst f5_))
         refine hK.out _ _ ⟨(blk_cell BK339.out 0).trans rfl, (blk_cell BK339.out 1).trans rfl⟩ (fun hHeld => ?_)
         clear hK K
         refine norm_ (a' := ?_) ?_ ?_
         rotate_left
         ·show Act.put _ (some 69) _ = _
          simp only [Act.put, List.setIfInBounds_toArray, List.set_cons_zero, List.set_cons_succ, i64_w, i32_w]
          rfl
         refine (pu 7 (some 70) 255 ?_ ?_ HT_ rfl rfl (by kernel_rfl) (fun _ _ _ h => h) ?_ ?_ ?_ (pu 8 (some 71) 511 ?_ ?_ HT_ rfl rfl (by kernel_rfl) (fun _ _ _ h => h) ?_ ?_ ?_ (pu 9 (some 72) 1023 ?_ ?_ HT_ rfl rfl (by kernel_rfl) (fun _ _ _ h => h) ?_ ?_ ?_ (pu 10 (some 73) 2047 ?_ ?_ HT_ rfl rfl (by kernel_rfl) (fun _ _ _ h => h) ?_ ?_ ?_ (pu 12 (some 75) 6143 ?_ ?_ HT_ rfl rfl (by kernel_rfl) (fun _ _ _ h => h) ?_ ?_ ?_ ?_)))))
         all_goals first | (intro w'; go_simp; with_reducible rfl) | (simp only [Act.put, List.setIfInBounds_toArray, List.set_cons_zero, List.set_cons_succ, i64_w, i32_w]; rfl) | rfl | skip
         refine one_ (i := 11) (N := some 74) (bz 42 8191) rfl rfl (one_of HT_.out (by kernel_rfl)) (by decide) (fun K hK => ?_)
         refine goes_ Try.func27 (by kernel_rfl) rfl #[.slice Ao67 t334.length co67] (by rfl) rfl rfl (by (try simp only [List.map_toArray, List.map_cons, List.map_nil]); first | done | rfl | (simp only [List.length_drop, List.length_take]; rfl)) ?_
         with_reducible refine (impl_SetOk.calls k _ _ t334 t355 _ ?side1 ?side2 A30.out).mono ?_
         (case side1 => repeat (first | exact (Kd.R_reads' HO336.out).2.2 | (with_reducible refine Kd.C_alloc ?_ _) | (with_reducible refine Kd.C_drewN ?_ _) | (with_reducible refine Kd.C_drew ?_)))
         (case side2 => exact (Kd.R_reads' HO336.out).2.1)
         rintro e w68 ⟨rfl, hb⟩
         refine ⟨_, rfl, ?_⟩
         have n0_ := rb HO325 hb; have n1_ := rb HO329 hb; have n2_ := rb HO333 hb; have n3_ := rb HO336 hb; have n4_ := rb HO343 hb; have n5_ := rb HO345 hb; have n6_ := rb HO349 hb; have n7_ := bb BK339 hb
         have n8_ := aM (below_step (by repeat (first | (with_reducible first | exact HB.out | apply aW1 | apply aW2 | apply aW3 | refine below_set ?_ GE339.out) | exact HB.out)) hb)
         clear HO325 HO329 HO333 HO336 HO343 HO345 HO349 BK339 HB; have HO325 := n0_; have HO329 := n1_; have HO333 := n2_; have HO336 := n3_; have HO343 := n4_; have HO345 := n5_; have HO349 := n6_; have BK339 := n7_; have HB := n8_; clear n0_ n1_ n2_ n3_ n4_ n5_ n6_ n7_ n8_
         (try clear hb)
         (try clear hb2)
         (try clear hk)
         (try clear hi)
         refine hK.out _ _ ⟨(blk_cell BK339.out 0).trans rfl, (blk_cell BK339.out 1).trans rfl⟩ (fun hHeld => ?_)
         clear hK K
         refine norm_ (a' := ?_) ?_ ?_
         rotate_left
         ·show Act.put _ (some 74) _ = _
          simp only [Act.put, List.setIfInBounds_toArray, List.set_cons_zero, List.set_cons_succ, i64_w, i32_w]
          rfl
         refine one_ (i := 13) (N := some 76) (bz 42 16383) rfl rfl (one_of HT_.out (by kernel_rfl)) (by decide) (fun K hK => ?_)
         refine goes_ Try.func76 (by kernel_rfl) rfl #[.slice Ao67 t334.length co67] (by rfl) rfl rfl (by (try simp only [List.map_toArray, List.map_cons, List.map_nil]); first | done | rfl | (simp only [List.length_drop, List.length_take]; rfl)) ?_
         with_reducible refine (spec_SetOk.calls k _ _ t334 t356 _ ?side1 ?side2 A31.out).mono ?_
         (case side1 => repeat (first | exact (Kd.R_reads' HO336.out).2.2 | (with_reducible refine Kd.C_alloc ?_ _) | (with_reducible refine Kd.C_drewN ?_ _) | (with_reducible refine Kd.C_drew ?_)))
         (case side2 => exact (Kd.R_reads' HO336.out).2.1)
         rintro e w69 ⟨rfl, hb⟩
         refine ⟨_, rfl, ?_⟩
         have n0_ := rb HO325 hb; have n1_ := rb HO329 hb; have n2_ := rb HO333 hb; have n3_ := rb HO336 hb; have n4_ := rb HO343 hb; have n5_ := rb HO345 hb; have n6_ := rb HO349 hb; have n7_ := bb BK339 hb
         have n8_ := aM (below_step (by repeat (first | (with_reducible first | exact HB.out | apply aW1 | apply aW2 | apply aW3 | refine below_set ?_ GE339.out) | exact HB.out)) hb)
         clear HO325 HO329 HO333 HO336 HO343 HO345 HO349 BK339 HB; have HO325 := n0_; have HO329 := n1_; have HO333 := n2_; have HO336 := n3_; have HO343 := n4_; have HO345 := n5_; have HO349 := n6_; have BK339 := n7_; have HB := n8_; clear n0_ n1_ n2_ n3_ n4_ n5_ n6_ n7_ n8_
         (try clear hb)
         (try clear hb2)
         (try clear hk)
         (try clear hi)
         refine hK.out _ _ ⟨(blk_cell BK339.out 0).trans rfl, (blk_cell BK339.out 1).trans rfl⟩ (fun hHeld => ?_)
         clear hK K
         refine norm_ (a' := ?_) ?_ ?_
         rotate_left
         ·show Act.put _ (some 76) _ = _
          simp only [Act.put, List.setIfInBounds_toArray, List.set_cons_zero, List.set_cons_succ, i64_w, i32_w]
          rfl
         refine (pu 14 (some 77) 32767 ?_ ?_ HT_ rfl rfl (by kernel_rfl) (fun _ _ _ h => h) ?_ ?_ ?_ (pu 15 (some 78) 65535 ?_ ?_ HT_ rfl rfl (by kernel_rfl) (fun _ _ _ h => h) ?_ ?_ ?_ (pu 16 (some 79) 131071 ?_ ?_ HT_ rfl rfl (by kernel_rfl) (fun _ _ _ h => h) ?_ ?_ ?_ (tk 17 (some 80) 262143 ?_ ?_ HT_ HW_ rfl rfl (by kernel_rfl) (fun _ _ _ h => h) hHeld ?_ ?_ ?_ (tk 19 (some 82) 786431 ?_ ?_ HT_ HW_ rfl rfl (by kernel_rfl) (fun _ _ _ h => h) hHeld ?_ ?_ ?_ ?_)))))
         all_goals first | (rintro w' ⟨s0, s1⟩; go_simp; with_reducible rfl) | (intro w'; go_simp; with_reducible rfl) | (simp only [Act.put, List.setIfInBounds_toArray, List.set_cons_zero, List.set_cons_succ, i64_w, i32_w]; rfl) | rfl | skip
         refine one_ (i := 18) (N := some 81) (bz 42 1048575) rfl rfl (one_of HT_.out (by kernel_rfl)) (by decide) (fun K hK => ?_)
         refine goes_ Try.func77 (by kernel_rfl) rfl #[.agg #[.string t337, .string t338]] (by rfl) rfl rfl (by (try simp only [List.map_toArray, List.map_cons, List.map_nil]); first | done | rfl | (simp only [List.length_drop, List.length_take]; rfl)) ?_
         with_reducible refine (impl_LabelOk.calls k t337 t338 t357 _ A39.out).mono ?_
         rintro e w70 ⟨rfl, hb⟩
         refine ⟨_, rfl, ?_⟩
         have n0_ := rb HO325 hb; have n1_ := rb HO329 hb; have n2_ := rb HO333 hb; have n3_ := rb HO336 hb; have n4_ := rb HO343 hb; have n5_ := rb HO345 hb; have n6_ := rb HO349 hb; have n7_ := bb BK339 hb
         have n8_ := aM (below_step (by repeat (first | (with_reducible first | exact HB.out | apply aW1 | apply aW2 | apply aW3 | refine below_set ?_ GE339.out) | exact HB.out)) hb)
         clear HO325 HO329 HO333 HO336 HO343 HO345 HO349 BK339 HB; have HO325 := n0_; have HO329 := n1_; have HO333 := n2_; have HO336 := n3_; have HO343 := n4_; have HO345 := n5_; have HO349 := n6_; have BK339 := n7_; have HB := n8_; clear n0_ n1_ n2_ n3_ n4_ n5_ n6_ n7_ n8_
         (try clear hb)
         (try clear hb2)
         (try clear hk)
         (try clear hi)
         refine hK.out _ _ ⟨(blk_cell BK339.out 0).trans rfl, (blk_cell BK339.out 1).trans rfl⟩ (fun hHeld => ?_)
         clear hK K
         refine norm_ (a' := ?_) ?_ ?_
         rotate_left
         ·show Act.put _ (some 81) _ = _
          simp only [Act.put, List.setIfInBounds_toArray, List.set_cons_zero, List.set_cons_succ, i64_w, i32_w]
          rfl
         refine one_ (i := 20) (N := some 83) (bz 42 2097151) rfl rfl (one_of HT_.out (by kernel_rfl)) (by decide) (fun K hK => ?_)
         refine goes_ Try.func78 (by kernel_rfl) rfl #[.agg #[.string t337, .string t338]] (by rfl) rfl rfl (by (try simp only [List.map_toArray, List.map_cons, List.map_nil]); first | done | rfl | (simp only [List.length_drop, List.length_take]; rfl)) ?_
         with_reducible refine (spec_LabelOk.calls k t337 t338 t358 _ A40.out).mono ?_
         rintro e w71 ⟨rfl, hb⟩
         refine ⟨_, rfl, ?_⟩
         have n0_ := rb HO325 hb; have n1_ := rb HO329 hb; have n2_ := rb HO333 hb; have n3_ := rb HO336 hb; have n4_ := rb HO343 hb; have n5_ := rb HO345 hb; have n6_ := rb HO349 hb; have n7_ := bb BK339 hb
         have n8_ := aM (below_step (by repeat (first | (with_reducible first | exact HB.out | apply aW1 | apply aW2 | apply aW3 | refine below_set ?_ GE339.out) | exact HB.out)) hb)
         clear HO325 HO329 HO333 HO336 HO343 HO345 HO349 BK339 HB; have HO325 := n0_; have HO329 := n1_; have HO333 := n2_; have HO336 := n3_; have HO343 := n4_; have HO345 := n5_; have HO349 := n6_; have BK339 := n7_; have HB := n8_; clear n0_ n1_ n2_ n3_ n4_ n5_ n6_ n7_ n8_
         (try clear hb)
         (try clear hb2)
         (try clear hk)
         (try clear hi)
         obtain ⟨Ao72, co72, eo72⟩ := Kd.R_slice HO343.out
         (first | subst eo72 | (injection eo72 with f1_ f2_ f3_; have f4_ := f1_.symm; have f5_ := f3_.symm; clear f1_ f2_ f3_; subst f4_; subst f5_))
         obtain ⟨Ao73, co73, eo73⟩ := Kd.R_slice HO345.out
         (first | subst eo73 | (injection eo73 with f1_ f2_ f3_; have f4_ := f1_.symm; have f5_ := f3_.symm; clear f1_ f2_ f3_; subst f4_; subst f5_))
         refine hK.out _ _ ⟨(blk_cell BK339.out 0).trans rfl, (blk_cell BK339.out 1).trans rfl⟩ (fun hHeld => ?_)
         clear hK K
         refine norm_ (a' := ?_) ?_ ?_
         rotate_left
         ·show Act.put _ (some 83) _ = _
          simp only [Act.put, List.setIfInBounds_toArray, List.set_cons_zero, List.set_cons_succ, i64_w, i32_w]
          rfl
         refine (pu 21 (some 84) 4194303 ?_ ?_ HT_ rfl rfl (by kernel_rfl) (fun _ _ _ h => h) ?_ ?_ ?_ (pu 22 (some 85) 8388607 ?_ ?_ HT_ rfl rfl (by kernel_rfl) (fun _ _ _ h => h) ?_ ?_ ?_ (pu 23 (some 86) 16777215 ?_ ?_ HT_ rfl rfl (by kernel_rfl) (fun _ _ _ h => h) ?_ ?_ ?_ (pu 24 (some 87) 33554431 ?_ ?_ HT_ rfl rfl (by kernel_rfl) (fun _ _ _ h => h) ?_ ?_ ?_ (pu 25 (some 88) 67108863 ?_ ?_ HT_ rfl rfl (by kernel_rfl) (fun _ _ _ h => h) ?_ ?_ ?_ (pu 27 (some 90) 201326591 ?_ ?_ HT_ rfl rfl (by kernel_rfl) (fun _ _ _ h => h) ?_ ?_ ?_ (pu 28 (some 91) 469762047 ?_ ?_ HT_ rfl rfl (by kernel_rfl) (fun _ _ _ h => h) ?_ ?_ ?_ ?_)))))))
         all_goals first | (intro w'; go_simp; with_reducible rfl) | (simp only [Act.put, List.setIfInBounds_toArray, List.set_cons_zero, List.set_cons_succ, i64_w, i32_w]; rfl) | rfl | skip
         refine one_ (i := 26) (N := some 89) (bz 42 536870911) rfl rfl (one_of HT_.out (by kernel_rfl)) (by decide) (fun K hK => ?_)
         refine goes_ Try.func28 (by kernel_rfl) rfl #[.slice Ao72 t340.length co72, .slice Ao73 t341.length co73] (by rfl) rfl rfl (by (try simp only [List.map_toArray, List.map_cons, List.map_nil]); first | done | rfl | (simp only [List.length_drop, List.length_take]; rfl)) ?_
         with_reducible refine (impl_SameSet.calls k _ _ t340 _ _ t341 t359 _ ?side1 ?side2 ?side3 ?side4 A50.out).mono ?_
         (case side1 => repeat (first | exact (Kd.R_reads' HO343.out).2.2 | (with_reducible refine Kd.C_alloc ?_ _) | (with_reducible refine Kd.C_drewN ?_ _) | (with_reducible refine Kd.C_drew ?_)))
         (case side2 => exact (Kd.R_reads' HO343.out).2.1)
         (case side3 => repeat (first | exact (Kd.R_reads' HO345.out).2.2 | (with_reducible refine Kd.C_alloc ?_ _) | (with_reducible refine Kd.C_drewN ?_ _) | (with_reducible refine Kd.C_drew ?_)))
         (case side4 => exact (Kd.R_reads' HO345.out).2.1)
         rintro e w' ⟨rfl, ⟨nd, rfl⟩⟩
         refine ⟨_, rfl, ?_⟩
         refine hK.out _ _ ⟨(blk_cell BK339.out 0).trans rfl, (blk_cell BK339.out 1).trans rfl⟩ (fun hHeld => ?_)
         clear hK K
         refine norm_ (a' := ?_) ?_ ?_
         rotate_left
         ·show Act.put _ (some 89) _ = _
          simp only [Act.put, List.setIfInBounds_toArray, List.set_cons_zero, List.set_cons_succ, i64_w, i32_w]
          rfl
         refine one_ (i := 29) (N := some 92) (bz 42 1073741823) rfl rfl (one_of HT_.out (by kernel_rfl)) (by decide) (fun K hK => ?_)
         refine goes_ Try.func79 (by kernel_rfl) rfl #[.slice Ao72 t340.length co72, .slice Ao73 t341.length co73] (by rfl) rfl rfl (by (try simp only [List.map_toArray, List.map_cons, List.map_nil]); first | done | rfl | (simp only [List.length_drop, List.length_take]; rfl)) ?_
         with_reducible refine (spec_SameSet.calls k _ _ t340 _ _ t341 t360 _ ?side1 ?side2 ?side3 ?side4 A51.out).mono ?_
         (case side1 => repeat (first | exact (Kd.R_reads' HO343.out).2.2 | (with_reducible refine Kd.C_alloc ?_ _) | (with_reducible refine Kd.C_drewN ?_ _) | (with_reducible refine Kd.C_drew ?_)))
         (case side2 => exact (Kd.R_reads' HO343.out).2.1)
         (case side3 => repeat (first | exact (Kd.R_reads' HO345.out).2.2 | (with_reducible refine Kd.C_alloc ?_ _) | (with_reducible refine Kd.C_drewN ?_ _) | (with_reducible refine Kd.C_drew ?_)))
         (case side4 => exact (Kd.R_reads' HO345.out).2.1)
         rintro e w' ⟨rfl, ⟨nd, rfl⟩⟩
         refine ⟨_, rfl, ?_⟩
         refine hK.out _ _ ⟨(blk_cell BK339.out 0).trans rfl, (blk_cell BK339.out 1).trans rfl⟩ (fun hHeld => ?_)
         clear hK K
         refine norm_ (a' := ?_) ?_ ?_
         rotate_left
         ·show Act.put _ (some 92) _ = _
          simp only [Act.put, List.setIfInBounds_toArray, List.set_cons_zero, List.set_cons_succ, i64_w, i32_w]
          rfl
         refine (pu 30 (some 93) 2147483647 ?_ ?_ HT_ rfl rfl (by kernel_rfl) (fun _ _ _ h => h) ?_ ?_ ?_ (pu 31 (some 94) 4294967295 ?_ ?_ HT_ rfl rfl (by kernel_rfl) (fun _ _ _ h => h) ?_ ?_ ?_ (pu 32 (some 95) 8589934591 ?_ ?_ HT_ rfl rfl (by kernel_rfl) (fun _ _ _ h => h) ?_ ?_ ?_ (pu 33 (some 96) 17179869183 ?_ ?_ HT_ rfl rfl (by kernel_rfl) (fun _ _ _ h => h) ?_ ?_ ?_ (pu 34 (some 97) 34359738367 ?_ ?_ HT_ rfl rfl (by kernel_rfl) (fun _ _ _ h => h) ?_ ?_ ?_ (pu 35 (some 98) 68719476735 ?_ ?_ HT_ rfl rfl (by kernel_rfl) (fun _ _ _ h => h) ?_ ?_ ?_ (pu 36 (some 99) 137438953471 ?_ ?_ HT_ rfl rfl (by kernel_rfl) (fun _ _ _ h => h) ?_ ?_ ?_ (pu 37 (some 100) 274877906943 ?_ ?_ HT_ rfl rfl (by kernel_rfl) (fun _ _ _ h => h) ?_ ?_ ?_ (pu 38 (some 101) 549755813887 ?_ ?_ HT_ rfl rfl (by kernel_rfl) (fun _ _ _ h => h) ?_ ?_ ?_ (pu 39 (some 102) 1099511627775 ?_ ?_ HT_ rfl rfl (by kernel_rfl) (fun _ _ _ h => h) ?_ ?_ ?_ (pu 40 (some 103) 2199023255551 ?_ ?_ HT_ rfl rfl (by kernel_rfl) (fun _ _ _ h => h) ?_ ?_ ?_ (pu 41 (some 104) 4398046511103 ?_ ?_ HT_ rfl rfl (by kernel_rfl) (fun _ _ _ h => h) ?_ ?_ ?_ ?_))))))))))))
         all_goals first | (intro w'; go_simp; with_reducible rfl) | (simp only [Act.put, List.setIfInBounds_toArray, List.set_cons_zero, List.set_cons_succ, i64_w, i32_w]; rfl) | rfl | skip
         refine done_ (done_of HT_.out (by kernel_rfl)) ?_
         try go_wp2
         go_meet
         case rel => exact ⟨_, ((t351 != t353)), (by first | rfl | (simp; done) | (simp [*]; done)), H', ⟨by first | omega | exact Nat.le_refl _⟩, ⟨by (with_reducible repeat (first | apply aR1 | apply aR2 | apply aR3)); exact Kd.R_mono HO325.out (fun _ hk => ⟨hk.1.1.1.1.1.1.2, hk.1.1.1.2⟩)⟩, ⟨by (with_reducible repeat (first | apply aR1 | apply aR2 | apply aR3)); exact Kd.R_mono HO329.out (fun _ hk => ⟨hk.1.1.1.1.1.1.2, hk.1.1.1.2⟩)⟩, ⟨by (with_reducible repeat (first | refine aB1 ?_ _ | refine aB2 ?_ | refine aB3 ?_ _)); exact BK339.out⟩, ⟨by repeat (first | (with_reducible first | exact HB.out | apply aW1 | apply aW2 | apply aW3 | refine below_set ?_ GE339.out) | exact HB.out)⟩⟩
        ·rw [if_neg c63] at H
         have c63b0 : (t350.toList == t352.toList) = false := beq_eq_false_iff_ne.mpr c63
         have c63b1 : (t350.toList != t352.toList) = true := bne_iff_ne.mpr c63
         have H' := aM H
         clear H
         try go_wp2
         have n0_ := aM (Kd.R_drew HO325.out)
         have n1_ := aM (Kd.R_drew HO329.out)
         have n2_ := aM (Kd.R_drew HO333.out)
         have n3_ := aM (Kd.R_drew HO336.out)
         have n4_ := aM (Kd.R_drew HO343.out)
         have n5_ := aM (Kd.R_drew HO345.out)
         have n6_ := aM (Kd.R_drew HO349.out)
         have n7_ := aM (blk_drew BK339.out)
         have n8_ := aM (below_drew1 HB.out)
         clear HO325 HO329 HO333 HO336 HO343 HO345 HO349 BK339 HB; have HO325 := n0_; have HO329 := n1_; have HO333 := n2_; have HO336 := n3_; have HO343 := n4_; have HO345 := n5_; have HO349 := n6_; have BK339 := n7_; have HB := n8_; clear n0_ n1_ n2_ n3_ n4_ n5_ n6_ n7_ n8_
         obtain ⟨Ao75, co75, eo75⟩ := Kd.R_slice HO329.out
         (first | subst eo75 | (injection eo75 with f1_ f2_ f3_; have f4_ := f1_.symm; have f5_ := f3_.symm; clear f1_ f2_ f3_; subst f4_; subst f5_))
         obtain ⟨Ao76, co76, eo76⟩ := Kd.R_slice HO333.out
         (first | subst eo76 | (injection eo76 with f1_ f2_ f3_; have f4_ := f1_.symm; have f5_ := f3_.symm; clear f1_ f2_ f3_; subst f4_; subst f5_))
         refine start_ (n := 42) (S := fun w' => w'.cell? ⟨gb339, 0, none⟩ = some (.string t337) ∧ w'.cell? ⟨gb339, 1, none⟩ = some (.string t338)) (ds := []) (bz 42 0) (by kernel_rfl) rfl (by kernel_rfl) ⟨(blk_cell BK339.out 0).trans rfl, (blk_cell BK339.out 1).trans rfl⟩ (fun hHeld => ?_); refine with_tabW laws_FnSets.tab12 laws_FnSets.bits12 (fun HT_ HW_ => ?_)
         generalize w25.drew = w74 at HO325 HO329 HO333 HO336 HO343 HO345 HO349 BK339 HB hHeld ⊢
         refine (pu 0 (some 63) 1 ?_ ?_ HT_ rfl rfl (by kernel_rfl) (fun _ _ _ h => h) ?_ ?_ ?_ (pu 1 (some 64) 3 ?_ ?_ HT_ rfl rfl (by kernel_rfl) (fun _ _ _ h => h) ?_ ?_ ?_ (pu 2 (some 65) 7 ?_ ?_ HT_ rfl rfl (by kernel_rfl) (fun _ _ _ h => h) ?_ ?_ ?_ (pu 3 (some 66) 15 ?_ ?_ HT_ rfl rfl (by kernel_rfl) (fun _ _ _ h => h) ?_ ?_ ?_ (pu 4 (some 67) 31 ?_ ?_ HT_ rfl rfl (by kernel_rfl) (fun _ _ _ h => h) ?_ ?_ ?_ (pu 5 (some 68) 63 ?_ ?_ HT_ rfl rfl (by kernel_rfl) (fun _ _ _ h => h) ?_ ?_ ?_ ?_))))))
         all_goals first | (intro w'; go_simp; with_reducible rfl) | (simp only [Act.put, List.setIfInBounds_toArray, List.set_cons_zero, List.set_cons_succ, i64_w, i32_w]; rfl) | rfl | skip
         refine one_ (i := 6) (N := some 69) (bz 42 127) rfl rfl (one_of HT_.out (by kernel_rfl)) (by decide) (fun K hK => ?_)
         refine goes_ Try.func28 (by kernel_rfl) rfl #[.slice Ao75 t326.length co75, .slice Ao76 t330.length co76] (by rfl) rfl rfl (by (try simp only [List.map_toArray, List.map_cons, List.map_nil]); first | done | rfl | (simp only [List.length_drop, List.length_take]; rfl)) ?_
         with_reducible refine (impl_SameSet.calls k _ _ t326 _ _ t330 true _ ?side1 ?side2 ?side3 ?side4 A28.out).mono ?_
         (case side1 => repeat (first | exact (Kd.R_reads' HO329.out).2.2 | (with_reducible refine Kd.C_alloc ?_ _) | (with_reducible refine Kd.C_drewN ?_ _) | (with_reducible refine Kd.C_drew ?_)))
         (case side2 => exact (Kd.R_reads' HO329.out).2.1)
         (case side3 => repeat (first | exact (Kd.R_reads' HO333.out).2.2 | (with_reducible refine Kd.C_alloc ?_ _) | (with_reducible refine Kd.C_drewN ?_ _) | (with_reducible refine Kd.C_drew ?_)))
         (case side4 => exact (Kd.R_reads' HO333.out).2.1)
         rintro e w' ⟨rfl, ⟨nd, rfl⟩⟩
         refine ⟨_, rfl, ?_⟩
         obtain ⟨Ao77, co77, eo77⟩ := Kd.R_slice HO336.out
         (first | subst eo77 | (injection eo77 with f1_ f2_ f3_; have f4_ := f1_.symm; have f5_ := f3_.symm; clear f1_ f2_ f3_; subst f4_; subst f5_))
         refine hK.out _ _ ⟨(blk_cell BK339.out 0).trans rfl, (blk_cell BK339.out 1).trans rfl⟩ (fun hHeld => ?_)
         clear hK K
         refine norm_ (a' := ?_) ?_ ?_
         rotate_left
         ·show Act.put _ (some 69) _ = _
          simp only [Act.put, List.setIfInBounds_toArray, List.set_cons_zero, List.set_cons_succ, i64_w, i32_w]
          rfl
         refine (pu 7 (some 70) 255 ?_ ?_ HT_ rfl rfl (by kernel_rfl) (fun _ _ _ h => h) ?_ ?_ ?_ (pu 8 (some 71) 511 ?_ ?_ HT_ rfl rfl (by kernel_rfl) (fun _ _ _ h => h) ?_ ?_ ?_ (pu 9 (some 72) 1023 ?_ ?_ HT_ rfl rfl (by kernel_rfl) (fun _ _ _ h => h) ?_ ?_ ?_ (pu 10 (some 73) 2047 ?_ ?_ HT_ rfl rfl (by kernel_rfl) (fun _ _ _ h => h) ?_ ?_ ?_ (pu 12 (some 75) 6143 ?_ ?_ HT_ rfl rfl (by kernel_rfl) (fun _ _ _ h => h) ?_ ?_ ?_ ?_)))))
         all_goals first | (intro w'; go_simp; with_reducible rfl) | (simp only [Act.put, List.setIfInBounds_toArray, List.set_cons_zero, List.set_cons_succ, i64_w, i32_w]; rfl) | rfl | skip
         refine one_ (i := 11) (N := some 74) (bz 42 8191) rfl rfl (one_of HT_.out (by kernel_rfl)) (by decide) (fun K hK => ?_)
         refine goes_ Try.func27 (by kernel_rfl) rfl #[.slice Ao77 t334.length co77] (by rfl) rfl rfl (by (try simp only [List.map_toArray, List.map_cons, List.map_nil]); first | done | rfl | (simp only [List.length_drop, List.length_take]; rfl)) ?_
         with_reducible refine (impl_SetOk.calls k _ _ t334 t355 _ ?side1 ?side2 A30.out).mono ?_
         (case side1 => repeat (first | exact (Kd.R_reads' HO336.out).2.2 | (with_reducible refine Kd.C_alloc ?_ _) | (with_reducible refine Kd.C_drewN ?_ _) | (with_reducible refine Kd.C_drew ?_)))
         (case side2 => exact (Kd.R_reads' HO336.out).2.1)
         rintro e w78 ⟨rfl, hb⟩
         refine ⟨_, rfl, ?_⟩
         have n0_ := rb HO325 hb; have n1_ := rb HO329 hb; have n2_ := rb HO333 hb; have n3_ := rb HO336 hb; have n4_ := rb HO343 hb; have n5_ := rb HO345 hb; have n6_ := rb HO349 hb; have n7_ := bb BK339 hb
         have n8_ := aM (below_step (by repeat (first | (with_reducible first | exact HB.out | apply aW1 | apply aW2 | apply aW3 | refine below_set ?_ GE339.out) | exact HB.out)) hb)
         clear HO325 HO329 HO333 HO336 HO343 HO345 HO349 BK339 HB; have HO325 := n0_; have HO329 := n1_; have HO333 := n2_; have HO336 := n3_; have HO343 := n4_; have HO345 := n5_; have HO349 := n6_; have BK339 := n7_; have HB := n8_; clear n0_ n1_ n2_ n3_ n4_ n5_ n6_ n7_ n8_
         (try clear hb)
         (try clear hb2)
         (try clear hk)
         (try clear hi)
         refine hK.out _ _ ⟨(blk_cell BK339.out 0).trans rfl, (blk_cell BK339.out 1).trans rfl⟩ (fun hHeld => ?_)
         clear hK K
         refine norm_ (a' := ?_) ?_ ?_
         rotate_left
         ·show Act.put _ (some 74) _ = _
          simp only [Act.put, List.setIfInBounds_toArray, List.set_cons_zero, List.set_cons_succ, i64_w, i32_w]
          rfl
         refine one_ (i := 13) (N := some 76) (bz 42 16383) rfl rfl (one_of HT_.out (by kernel_rfl)) (by decide) (fun K hK => ?_)
         refine goes_ Try.func76 (by kernel_rfl) rfl #[.slice Ao77 t334.length co77] (by rfl) rfl rfl (by (try simp only [List.map_toArray, List.map_cons, List.map_nil]); first | done | rfl | (simp only [List.length_drop, List.length_take]; rfl)) ?_
         with_reducible refine (spec_SetOk.calls k _ _ t334 t356 _ ?side1 ?side2 A31.out).mono ?_
         (case side1 => repeat (first | exact (Kd.R_reads' HO336.out).2.2 | (with_reducible refine Kd.C_alloc ?_ _) | (with_reducible refine Kd.C_drewN ?_ _) | (with_reducible refine Kd.C_drew ?_)))
         (case side2 => exact (Kd.R_reads' HO336.out).2.1)
         rintro e w79 ⟨rfl, hb⟩
         refine ⟨_, rfl, ?_⟩
         have n0_ := rb HO325 hb; have n1_ := rb HO329 hb; have n2_ := rb HO333 hb; have n3_ := rb HO336 hb; have n4_ := rb HO343 hb; have n5_ := rb HO345 hb; have n6_ := rb HO349 hb; have n7_ := bb BK339 hb
         have n8_ := aM (below_step (by repeat (first | (with_reducible first | exact HB.out | apply aW1 | apply aW2 | apply aW3 | refine below_set ?_ GE339.out) | exact HB.out)) hb)
         clear HO325 HO329 HO333 HO336 HO343 HO345 HO349 BK339 HB; have HO325 := n0_; have HO329 := n1_; have HO333 := n2_; have HO336 := n3_; have HO343 := n4_; have HO345 := n5_; have HO349 := n6_; have BK339 := n7_; have HB := n8_; clear n0_ n1_ n2_ n3_ n4_ n5_ n6_ n7_ n8_
         (try clear hb)
         (try clear hb2)
         (try clear hk)
         (try clear hi)
         refine hK.out _ _ ⟨(blk_cell BK339.out 0).trans rfl, (blk_cell BK339.out 1).trans rfl⟩ (fun hHeld => ?_)
         clear hK K
         refine norm_ (a' := ?_) ?_ ?_
         rotate_left
         ·show Act.put _ (some 76) _ = _
          simp only [Act.put, List.setIfInBounds_toArray, List.set_cons_zero, List.set_cons_succ, i64_w, i32_w]
          rfl
         refine (pu 14 (some 77) 32767 ?_ ?_ HT_ rfl rfl (by kernel_rfl) (fun _ _ _ h => h) ?_ ?_ ?_ (pu 15 (some 78) 65535 ?_ ?_ HT_ rfl rfl (by kernel_rfl) (fun _ _ _ h => h) ?_ ?_ ?_ (pu 16 (some 79) 131071 ?_ ?_ HT_ rfl rfl (by kernel_rfl) (fun _ _ _ h => h) ?_ ?_ ?_ (tk 17 (some 80) 262143 ?_ ?_ HT_ HW_ rfl rfl (by kernel_rfl) (fun _ _ _ h => h) hHeld ?_ ?_ ?_ (tk 19 (some 82) 786431 ?_ ?_ HT_ HW_ rfl rfl (by kernel_rfl) (fun _ _ _ h => h) hHeld ?_ ?_ ?_ ?_)))))
         all_goals first | (rintro w' ⟨s0, s1⟩; go_simp; with_reducible rfl) | (intro w'; go_simp; with_reducible rfl) | (simp only [Act.put, List.setIfInBounds_toArray, List.set_cons_zero, List.set_cons_succ, i64_w, i32_w]; rfl) | rfl | skip
         refine one_ (i := 18) (N := some 81) (bz 42 1048575) rfl rfl (one_of HT_.out (by kernel_rfl)) (by decide) (fun K hK => ?_)
         refine goes_ Try.func77 (by kernel_rfl) rfl #[.agg #[.string t337, .string t338]] (by rfl) rfl rfl (by (try simp only [List.map_toArray, List.map_cons, List.map_nil]); first | done | rfl | (simp only [List.length_drop, List.length_take]; rfl)) ?_
         with_reducible refine (impl_LabelOk.calls k t337 t338 t357 _ A39.out).mono ?_
         rintro e w80 ⟨rfl, hb⟩
         refine ⟨_, rfl, ?_⟩
         have n0_ := rb HO325 hb; have n1_ := rb HO329 hb; have n2_ := rb HO333 hb; have n3_ := rb HO336 hb; have n4_ := rb HO343 hb; have n5_ := rb HO345 hb; have n6_ := rb HO349 hb; have n7_ := bb BK339 hb
         have n8_ := aM (below_step (by repeat (first | (with_reducible first | exact HB.out | apply aW1 | apply aW2 | apply aW3 | refine below_set ?_ GE339.out) | exact HB.out)) hb)
         clear HO325 HO329 HO333 HO336 HO343 HO345 HO349 BK339 HB; have HO325 := n0_; have HO329 := n1_; have HO333 := n2_; have HO336 := n3_; have HO343 := n4_; have HO345 := n5_; have HO349 := n6_; have BK339 := n7_; have HB := n8_; clear n0_ n1_ n2_ n3_ n4_ n5_ n6_ n7_ n8_
         (try clear hb)
         (try clear hb2)
         (try clear hk)
         (try clear hi)
         refine hK.out _ _ ⟨(blk_cell BK339.out 0).trans rfl, (blk_cell BK339.out 1).trans rfl⟩ (fun hHeld => ?_)
         clear hK K
         refine norm_ (a' := ?_) ?_ ?_
         rotate_left
         ·show Act.put _ (some 81) _ = _
          simp only [Act.put, List.setIfInBounds_toArray, List.set_cons_zero, List.set_cons_succ, i64_w, i32_w]
          rfl
         refine one_ (i := 20) (N := some 83) (bz 42 2097151) rfl rfl (one_of HT_.out (by kernel_rfl)) (by decide) (fun K hK => ?_)
         refine goes_ Try.func78 (by kernel_rfl) rfl #[.agg #[.string t337, .string t338]] (by rfl) rfl rfl (by (try simp only [List.map_toArray, List.map_cons, List.map_nil]); first | done | rfl | (simp only [List.length_drop, List.length_take]; rfl)) ?_
         with_reducible refine (spec_LabelOk.calls k t337 t338 t358 _ A40.out).mono ?_
         rintro e w81 ⟨rfl, hb⟩
         refine ⟨_, rfl, ?_⟩
         have n0_ := rb HO325 hb; have n1_ := rb HO329 hb; have n2_ := rb HO333 hb; have n3_ := rb HO336 hb; have n4_ := rb HO343 hb; have n5_ := rb HO345 hb; have n6_ := rb HO349 hb; have n7_ := bb BK339 hb
         have n8_ := aM (below_step (by repeat (first | (with_reducible first | exact HB.out | apply aW1 | apply aW2 | apply aW3 | refine below_set ?_ GE339.out) | exact HB.out)) hb)
         clear HO325 HO329 HO333 HO336 HO343 HO345 HO349 BK339 HB; have HO325 := n0_; have HO329 := n1_; have HO333 := n2_; have HO336 := n3_; have HO343 := n4_; have HO345 := n5_; have HO349 := n6_; have BK339 := n7_; have HB := n8_; clear n0_ n1_ n2_ n3_ n4_ n5_ n6_ n7_ n8_
         (try clear hb)
         (try clear hb2)
         (try clear hk)
         (try clear hi)
         obtain ⟨Ao82, co82, eo82⟩ := Kd.R_slice HO343.out
         (first | subst eo82 | (injection eo82 with f1_ f2_ f3_; have f4_ := f1_.symm; have f5_ := f3_.symm; clear f1_ f2_ f3_; subst f4_; subst f5_))
         obtain ⟨Ao83, co83, eo83⟩ := Kd.R_slice HO345.out
         (first | subst eo83 | (injection eo83 with f1_ f2_ f3_; have f4_ := f1_.symm; have f5_ := f3_.symm; clear f1_ f2_ f3_; subst f4_; subst f5_))
         refine hK.out _ _ ⟨(blk_cell BK339.out 0).trans rfl, (blk_cell BK339.out 1).trans rfl⟩ (fun hHeld => ?_)
         clear hK K
         refine norm_ (a' := ?_) ?_ ?_
         rotate_left
         ·show Act.put _ (some 83) _ = _
          simp only [Act.put, List.setIfInBounds_toArray, List.set_cons_zero, List.set_cons_succ, i64_w, i32_w]
          rfl
         refine (pu 21 (some 84) 4194303 ?_ ?_ HT_ rfl rfl (by kernel_rfl) (fun _ _ _ h => h) ?_ ?_ ?_ (pu 22 (some 85) 8388607 ?_ ?_ HT_ rfl rfl (by kernel_rfl) (fun _ _ _ h => h) ?_ ?_ ?_ (pu 23 (some 86) 16777215 ?_ ?_ HT_ rfl rfl (by kernel_rfl) (fun _ _ _ h => h) ?_ ?_ ?_ (pu 24 (some 87) 33554431 ?_ ?_ HT_ rfl rfl (by kernel_rfl) (fun _ _ _ h => h) ?_ ?_ ?_ (pu 25 (some 88) 67108863 ?_ ?_ HT_ rfl rfl (by kernel_rfl) (fun _ _ _ h => h) ?_ ?_ ?_ (pu 27 (some 90) 201326591 ?_ ?_ HT_ rfl rfl (by kernel_rfl) (fun _ _ _ h => h) ?_ ?_ ?_ (pu 28 (some 91) 469762047 ?_ ?_ HT_ rfl rfl (by kernel_rfl) (fun _ _ _ h => h) ?_ ?_ ?_ ?_)))))))
         all_goals first | (intro w'; go_simp; with_reducible rfl) | (simp only [Act.put, List.setIfInBounds_toArray, List.set_cons_zero, List.set_cons_succ, i64_w, i32_w]; rfl) | rfl | skip
         refine one_ (i := 26) (N := some 89) (bz 42 536870911) rfl rfl (one_of HT_.out (by kernel_rfl)) (by decide) (fun K hK => ?_)
         refine goes_ Try.func28 (by kernel_rfl) rfl #[.slice Ao82 t340.length co82, .slice Ao83 t341.length co83] (by rfl) rfl rfl (by (try simp only [List.map_toArray, List.map_cons, List.map_nil]); first | done | rfl | (simp only [List.length_drop, List.length_take]; rfl)) ?_
         with_reducible refine (impl_SameSet.calls k _ _ t340 _ _ t341 t359 _ ?side1 ?side2 ?side3 ?side4 A50.out).mono ?_
         (case side1 => repeat (first | exact (Kd.R_reads' HO343.out).2.2 | (with_reducible refine Kd.C_alloc ?_ _) | (with_reducible refine Kd.C_drewN ?_ _) | (with_reducible refine Kd.C_drew ?_)))
         (case side2 => exact (Kd.R_reads' HO343.out).2.1)
         (case side3 => repeat (first | exact (Kd.R_reads' HO345.out).2.2 | (with_reducible refine Kd.C_alloc ?_ _) | (with_reducible refine Kd.C_drewN ?_ _) | (with_reducible refine Kd.C_drew ?_)))
         (case side4 => exact (Kd.R_reads' HO345.out).2.1)
         rintro e w' ⟨rfl, ⟨nd, rfl⟩⟩
         refine ⟨_, rfl, ?_⟩
         refine hK.out _ _ ⟨(blk_cell BK339.out 0).trans rfl, (blk_cell BK339.out 1).trans rfl⟩ (fun hHeld => ?_)
         clear hK K
         refine norm_ (a' := ?_) ?_ ?_
         rotate_left
         ·show Act.put _ (some 89) _ = _
          simp only [Act.put, List.setIfInBounds_toArray, List.set_cons_zero, List.set_cons_succ, i64_w, i32_w]
          rfl
         refine one_ (i := 29) (N := some 92) (bz 42 1073741823) rfl rfl (one_of HT_.out (by kernel_rfl)) (by decide) (fun K hK => ?_)
         refine goes_ Try.func79 (by kernel_rfl) rfl #[.slice Ao82 t340.length co82, .slice Ao83 t341.length co83] (by rfl) rfl rfl (by (try simp only [List.map_toArray, List.map_cons, List.map_nil]); first | done | rfl | (simp only [List.length_drop, List.length_take]; rfl)) ?_
         with_reducible refine (spec_SameSet.calls k _ _ t340 _ _ t341 t360 _ ?side1 ?side2 ?side3 ?side4 A51.out).mono ?_
         (case side1 => repeat (first | exact (Kd.R_reads' HO343.out).2.2 | (with_reducible refine Kd.C_alloc ?_ _) | (with_reducible refine Kd.C_drewN ?_ _) | (with_reducible refine Kd.C_drew ?_)))
         (case side2 => exact (Kd.R_reads' HO343.out).2.1)
         (case side3 => repeat (first | exact (Kd.R_reads' HO345.out).2.2 | (with_reducible refine Kd.C_alloc ?_ _) | (with_reducible refine Kd.C_drewN ?_ _) | (with_reducible refine Kd.C_drew ?_)))
         (case side4 => exact (Kd.R_reads' HO345.out).2.1)
         rintro e w' ⟨rfl, ⟨nd, rfl⟩⟩
         refine ⟨_, rfl, ?_⟩
         refine hK.out _ _ ⟨(blk_cell BK339.out 0).trans rfl, (blk_cell BK339.out 1).trans rfl⟩ (fun hHeld => ?_)
         clear hK K
         refine norm_ (a' := ?_) ?_ ?_
         rotate_left
         ·show Act.put _ (some 92) _ = _
          simp only [Act.put, List.setIfInBounds_toArray, List.set_cons_zero, List.set_cons_succ, i64_w, i32_w]
          rfl
         refine (pu 30 (some 93) 2147483647 ?_ ?_ HT_ rfl rfl (by kernel_rfl) (fun _ _ _ h => h) ?_ ?_ ?_ (pu 31 (some 94) 4294967295 ?_ ?_ HT_ rfl rfl (by kernel_rfl) (fun _ _ _ h => h) ?_ ?_ ?_ (pu 32 (some 95) 8589934591 ?_ ?_ HT_ rfl rfl (by kernel_rfl) (fun _ _ _ h => h) ?_ ?_ ?_ (pu 33 (some 96) 17179869183 ?_ ?_ HT_ rfl rfl (by kernel_rfl) (fun _ _ _ h => h) ?_ ?_ ?_ (pu 34 (some 97) 34359738367 ?_ ?_ HT_ rfl rfl (by kernel_rfl) (fun _ _ _ h => h) ?_ ?_ ?_ (pu 35 (some 98) 68719476735 ?_ ?_ HT_ rfl rfl (by kernel_rfl) (fun _ _ _ h => h) ?_ ?_ ?_ (pu 36 (some 99) 137438953471 ?_ ?_ HT_ rfl rfl (by kernel_rfl) (fun _ _ _ h => h) ?_ ?_ ?_ (pu 37 (some 100) 274877906943 ?_ ?_ HT_ rfl rfl (by kernel_rfl) (fun _ _ _ h => h) ?_ ?_ ?_ (po 38 (some 101) 549755813887 ?_ HT_ rfl rfl (by kernel_rfl) (fun _ _ _ h => h) ?_ ?_ (po 39 (some 102) 1099511627775 ?_ HT_ rfl rfl (by kernel_rfl) (fun _ _ _ h => h) ?_ ?_ (po 40 (some 103) 2199023255551 ?_ HT_ rfl rfl (by kernel_rfl) (fun _ _ _ h => h) ?_ ?_ (pu 41 (some 104) 4398046511103 ?_ ?_ HT_ rfl rfl (by kernel_rfl) (fun _ _ _ h => h) ?_ ?_ ?_ ?_))))))))))))
         all_goals first | (intro w'; go_simp; with_reducible rfl) | (simp only [Act.put, List.setIfInBounds_toArray, List.set_cons_zero, List.set_cons_succ, i64_w, i32_w]; rfl) | rfl | skip
         refine done_ (done_of HT_.out (by kernel_rfl)) ?_
         try go_wp2
         go_meet
         case rel => exact ⟨_, (true), (by first | rfl | (simp; done) | (simp [*]; done)), H', ⟨by first | omega | exact Nat.le_refl _⟩, ⟨by (with_reducible repeat (first | apply aR1 | apply aR2 | apply aR3)); exact Kd.R_mono HO325.out (fun _ hk => ⟨hk.1.1.1.1.1.1.2, hk.1.1.1.2⟩)⟩, ⟨by (with_reducible repeat (first | apply aR1 | apply aR2 | apply aR3)); exact Kd.R_mono HO329.out (fun _ hk => ⟨hk.1.1.1.1.1.1.2, hk.1.1.1.2⟩)⟩, ⟨by (with_reducible repeat (first | refine aB1 ?_ _ | refine aB2 ?_ | refine aB3 ?_ _)); exact BK339.out⟩, ⟨by repeat (first | (with_reducible first | exact HB.out | apply aW1 | apply aW2 | apply aW3 | refine below_set ?_ GE339.out) | exact HB.out)⟩⟩
    ·replace c29 := Bool.eq_false_iff.mpr c29
     subst c29
     have H1 : (laws_FnSets.j0 k t323 t326 t327 true) = some r := by rw [if_neg (show ¬ (false = true) by decide)] at H; exact H
     clear H
     have H := H1
     clear H1
     have H' := aM H
     clear H
     try go_wp2
     have n0_ := aM (Kd.R_drew HO325.out)
     have n1_ := aM (Kd.R_drew HO329.out)
     have n2_ := aM (Kd.R_drew HO333.out)
     have n3_ := aM (Kd.R_drew HO336.out)
     have n4_ := aM (Kd.R_drew HO343.out)
     have n5_ := aM (Kd.R_drew HO345.out)
     have n6_ := aM (Kd.R_drew HO349.out)
     have n7_ := aM (blk_drew BK339.out)
     have n8_ := aM (below_drew1 HB.out)
     clear HO325 HO329 HO333 HO336 HO343 HO345 HO349 BK339 HB; have HO325 := n0_; have HO329 := n1_; have HO333 := n2_; have HO336 := n3_; have HO343 := n4_; have HO345 := n5_; have HO349 := n6_; have BK339 := n7_; have HB := n8_; clear n0_ n1_ n2_ n3_ n4_ n5_ n6_ n7_ n8_
     obtain ⟨Ao85, co85, eo85⟩ := Kd.R_slice HO329.out
     (first | subst eo85 | (injection eo85 with f1_ f2_ f3_; have f4_ := f1_.symm; have f5_ := f3_.symm; clear f1_ f2_ f3_; subst f4_; subst f5_))
     obtain ⟨Ao86, co86, eo86⟩ := Kd.R_slice HO333.out
     (first | subst eo86 | (injection eo86 with f1_ f2_ f3_; have f4_ := f1_.symm; have f5_ := f3_.symm; clear f1_ f2_ f3_; subst f4_; subst f5_))
     refine start_ (n := 42) (S := fun w' => True) (ds := []) (bz 42 0) (by kernel_rfl) rfl (by kernel_rfl) trivial (fun hHeld => ?_); refine with_tabW laws_FnSets.tab12 laws_FnSets.bits12 (fun HT_ HW_ => ?_)
     generalize w25.drew = w84 at HO325 HO329 HO333 HO336 HO343 HO345 HO349 BK339 HB hHeld ⊢
     refine (pu 0 (some 63) 1 ?_ ?_ HT_ rfl rfl (by kernel_rfl) (fun _ _ _ h => h) ?_ ?_ ?_ (pu 1 (some 64) 3 ?_ ?_ HT_ rfl rfl (by kernel_rfl) (fun _ _ _ h => h) ?_ ?_ ?_ (pu 2 (some 65) 7 ?_ ?_ HT_ rfl rfl (by kernel_rfl) (fun _ _ _ h => h) ?_ ?_ ?_ (pu 3 (some 66) 15 ?_ ?_ HT_ rfl rfl (by kernel_rfl) (fun _ _ _ h => h) ?_ ?_ ?_ (pu 4 (some 67) 31 ?_ ?_ HT_ rfl rfl (by kernel_rfl) (fun _ _ _ h => h) ?_ ?_ ?_ (pu 5 (some 68) 63 ?_ ?_ HT_ rfl rfl (by kernel_rfl) (fun _ _ _ h => h) ?_ ?_ ?_ ?_))))))
     all_goals first | (intro w'; go_simp; with_reducible rfl) | (simp only [Act.put, List.setIfInBounds_toArray, List.set_cons_zero, List.set_cons_succ, i64_w, i32_w]; rfl) | rfl | skip
     refine one_ (i := 6) (N := some 69) (bz 42 127) rfl rfl (one_of HT_.out (by kernel_rfl)) (by decide) (fun K hK => ?_)
     refine goes_ Try.func28 (by kernel_rfl) rfl #[.slice Ao85 t326.length co85, .slice Ao86 t330.length co86] (by rfl) rfl rfl (by (try simp only [List.map_toArray, List.map_cons, List.map_nil]); first | done | rfl | (simp only [List.length_drop, List.length_take]; rfl)) ?_
     with_reducible refine (impl_SameSet.calls k _ _ t326 _ _ t330 false _ ?side1 ?side2 ?side3 ?side4 A28.out).mono ?_
     (case side1 => repeat (first | exact (Kd.R_reads' HO329.out).2.2 | (with_reducible refine Kd.C_alloc ?_ _) | (with_reducible refine Kd.C_drewN ?_ _) | (with_reducible refine Kd.C_drew ?_)))
     (case side2 => exact (Kd.R_reads' HO329.out).2.1)
     (case side3 => repeat (first | exact (Kd.R_reads' HO333.out).2.2 | (with_reducible refine Kd.C_alloc ?_ _) | (with_reducible refine Kd.C_drewN ?_ _) | (with_reducible refine Kd.C_drew ?_)))
     (case side4 => exact (Kd.R_reads' HO333.out).2.1)
     rintro e w' ⟨rfl, ⟨nd, rfl⟩⟩
     refine ⟨_, rfl, ?_⟩
     refine hK.out _ _ trivial (fun hHeld => ?_)
     clear hK K
     refine norm_ (a' := ?_) ?_ ?_
     rotate_left
     ·show Act.put _ (some 69) _ = _
      simp only [Act.put, List.setIfInBounds_toArray, List.set_cons_zero, List.set_cons_succ, i64_w, i32_w]
      rfl
     refine (pu 7 (some 70) 255 ?_ ?_ HT_ rfl rfl (by kernel_rfl) (fun _ _ _ h => h) ?_ ?_ ?_ (pu 8 (some 71) 511 ?_ ?_ HT_ rfl rfl (by kernel_rfl) (fun _ _ _ h => h) ?_ ?_ ?_ (pu 9 (some 72) 1023 ?_ ?_ HT_ rfl rfl (by kernel_rfl) (fun _ _ _ h => h) ?_ ?_ ?_ (po 10 (some 73) 2047 ?_ HT_ rfl rfl (by kernel_rfl) (fun _ _ _ h => h) ?_ ?_ (po 11 (some 74) 4095 ?_ HT_ rfl rfl (by kernel_rfl) (fun _ _ _ h => h) ?_ ?_ (po 12 (some 75) 8191 ?_ HT_ rfl rfl (by kernel_rfl) (fun _ _ _ h => h) ?_ ?_ (po 13 (some 76) 16383 ?_ HT_ rfl rfl (by kernel_rfl) (fun _ _ _ h => h) ?_ ?_ (po 14 (some 77) 32767 ?_ HT_ rfl rfl (by kernel_rfl) (fun _ _ _ h => h) ?_ ?_ (pu 15 (some 78) 65535 ?_ ?_ HT_ rfl rfl (by kernel_rfl) (fun _ _ _ h => h) ?_ ?_ ?_ (pu 16 (some 79) 131071 ?_ ?_ HT_ rfl rfl (by kernel_rfl) (fun _ _ _ h => h) ?_ ?_ ?_ (po 17 (some 80) 262143 ?_ HT_ rfl rfl (by kernel_rfl) (fun _ _ _ h => h) ?_ ?_ (po 18 (some 81) 524287 ?_ HT_ rfl rfl (by kernel_rfl) (fun _ _ _ h => h) ?_ ?_ (po 19 (some 82) 1048575 ?_ HT_ rfl rfl (by kernel_rfl) (fun _ _ _ h => h) ?_ ?_ (po 20 (some 83) 2097151 ?_ HT_ rfl rfl (by kernel_rfl) (fun _ _ _ h => h) ?_ ?_ (po 21 (some 84) 4194303 ?_ HT_ rfl rfl (by kernel_rfl) (fun _ _ _ h => h) ?_ ?_ (pu 22 (some 85) 8388607 ?_ ?_ HT_ rfl rfl (by kernel_rfl) (fun _ _ _ h => h) ?_ ?_ ?_ (pu 23 (some 86) 16777215 ?_ ?_ HT_ rfl rfl (by kernel_rfl) (fun _ _ _ h => h) ?_ ?_ ?_ (po 24 (some 87) 33554431 ?_ HT_ rfl rfl (by kernel_rfl) (fun _ _ _ h => h) ?_ ?_ (po 25 (some 88) 67108863 ?_ HT_ rfl rfl (by kernel_rfl) (fun _ _ _ h => h) ?_ ?_ (po 26 (some 89) 134217727 ?_ HT_ rfl rfl (by kernel_rfl) (fun _ _ _ h => h) ?_ ?_ (po 27 (some 90) 268435455 ?_ HT_ rfl rfl (by kernel_rfl) (fun _ _ _ h => h) ?_ ?_ (po 28 (some 91) 536870911 ?_ HT_ rfl rfl (by kernel_rfl) (fun _ _ _ h => h) ?_ ?_ (po 29 (some 92) 1073741823 ?_ HT_ rfl rfl (by kernel_rfl) (fun _ _ _ h => h) ?_ ?_ (po 30 (some 93) 2147483647 ?_ HT_ rfl rfl (by kernel_rfl) (fun _ _ _ h => h) ?_ ?_ (pu 31 (some 94) 4294967295 ?_ ?_ HT_ rfl rfl (by kernel_rfl) (fun _ _ _ h => h) ?_ ?_ ?_ (pu 32 (some 95) 8589934591 ?_ ?_ HT_ rfl rfl (by kernel_rfl) (fun _ _ _ h => h) ?_ ?_ ?_ (po 33 (some 96) 17179869183 ?_ HT_ rfl rfl (by kernel_rfl) (fun _ _ _ h => h) ?_ ?_ (po 34 (some 97) 34359738367 ?_ HT_ rfl rfl (by kernel_rfl) (fun _ _ _ h => h) ?_ ?_ (po 35 (some 98) 68719476735 ?_ HT_ rfl rfl (by kernel_rfl) (fun _ _ _ h => h) ?_ ?_ (pu 36 (some 99) 137438953471 ?_ ?_ HT_ rfl rfl (by kernel_rfl) (fun _ _ _ h => h) ?_ ?_ ?_ (pu 37 (some 100) 274877906943 ?_ ?_ HT_ rfl rfl (by kernel_rfl) (fun _ _ _ h => h) ?_ ?_ ?_ (po 38 (some 101) 549755813887 ?_ HT_ rfl rfl (by kernel_rfl) (fun _ _ _ h => h) ?_ ?_ (po 39 (some 102) 1099511627775 ?_ HT_ rfl rfl (by kernel_rfl) (fun _ _ _ h => h) ?_ ?_ (po 40 (some 103) 2199023255551 ?_ HT_ rfl rfl (by kernel_rfl) (fun _ _ _ h => h) ?_ ?_ (pu 41 (some 104) 4398046511103 ?_ ?_ HT_ rfl rfl (by kernel_rfl) (fun _ _ _ h => h) ?_ ?_ ?_ ?_)))))))))))))))))))))))))))))))))))
     all_goals first | (intro w'; go_simp; with_reducible rfl) | (simp only [Act.put, List.setIfInBounds_toArray, List.set_cons_zero, List.set_cons_succ, i64_w, i32_w]; rfl) | rfl | skip
     refine done_ (done_of HT_.out (by kernel_rfl)) ?_
     try go_wp2
     go_meet
     case rel => exact ⟨_, (true), (by first | rfl | (simp; done) | (simp [*]; done)), H', ⟨by first | omega | exact Nat.le_refl _⟩, ⟨by (with_reducible repeat (first | apply aR1 | apply aR2 | apply aR3)); exact Kd.R_mono HO325.out (fun _ hk => ⟨hk.1.1.1.1.1.1.2, hk.1.1.1.2⟩)⟩, ⟨by (with_reducible repeat (first | apply aR1 | apply aR2 | apply aR3)); exact Kd.R_mono HO329.out (fun _ hk => ⟨hk.1.1.1.1.1.1.2, hk.1.1.1.2⟩)⟩, ⟨by (with_reducible repeat (first | refine aB1 ?_ _ | refine aB2 ?_ | refine aB3 ?_ _)); exact BK339.out⟩, ⟨by repeat (first | (with_reducible first | exact HB.out | apply aW1 | apply aW2 | apply aW3 | refine below_set ?_ GE339.out) | exact HB.out)⟩⟩
  case rest =>
   clear HC13
   try clear c2
   try clear p2
   try clear c7
   try clear c28
   try clear c29
   try clear c77
   try clear c78
   try clear c79
   obtain ⟨kq, x104_12, rfl, HA, HJ12, HO_3, HO_4, BK339, HB⟩ := hcut
   cases kq with
   | zero => exact absurd HA.out (by simp [laws_FnSets.j0])
   | succ kj12 =>
    have H := HA.out
    clear HA
    simp only [laws_FnSets.j0] at H
    by_cases c87 : x104_12 = true
    ·subst c87
     have H1 : (some false) = some r := by rw [if_pos rfl] at H; exact H
     clear H
     have H := H1
     clear H1
     exact absurd (Option.some.inj H) (by rw [hr_.out]; decide)
    ·replace c87 := Bool.eq_false_iff.mpr c87
     subst c87
     have H1 : (if t327 = true then ((impl_SortSet.f kj12 t326).bind fun bt362 => (laws_FnSets.l0 kj12 t323 t326 bt362.1 bt362.2 0)) else (if (t326.length : Int) = 0 then ((impl_SetOk.f kj12 t323).bind fun t361 => (some (!t361))) else (some false))) = some r := by rw [if_neg (show ¬ (false = true) by decide)] at H; exact H
     clear H
     have H := H1
     clear H1
     by_cases c88 : t327 = true
     ·subst c88
      have H1 : ((impl_SortSet.f kj12 t326).bind fun bt362 => (laws_FnSets.l0 kj12 t323 t326 bt362.1 bt362.2 0)) = some r := by rw [if_pos rfl] at H; exact H
      clear H
      have H := H1
      clear H1; replace H := Option.bind_eq_some_iff.mp H
      obtain ⟨⟨t362, t363⟩, A890, H⟩ := H
      try dsimp only at H
      have A89 := aM A890
      clear A890
      have H' := aM H
      clear H
      obtain ⟨Ao90, co90, eo90⟩ := Kd.R_slice HO_4.out
      subst eo90
      go_wp2_with (first | ((with_reducible refine gate_callee (f := 65) rfl ?_); refine goesL_ (some 117) rfl rfl Try.func65 (by kernel_rfl) rfl #[.slice Ao90 t326.length co90] rfl (by (try simp only [List.map_toArray, List.map_cons, List.map_nil]); first | done | rfl | (simp only [List.length_drop, List.length_take]; rfl)) ?_; (with_reducible refine (impl_SortSet.calls kj12 _ _ t326 t362 t363 _ ?side1 ?side2 A89.out).mono ?_); (case side1 => repeat (first | exact (Kd.R_reads' HO_4.out).2.2 | (with_reducible refine Kd.C_alloc ?_ _) | (with_reducible refine Kd.C_drewN ?_ _) | (with_reducible refine Kd.C_drew ?_))); (case side2 => exact (Kd.R_reads' HO_4.out).2.1); rintro e w91 ⟨v364, rfl, ho0, hb⟩; refine ⟨_, rfl, ?_⟩; have n0_ := aM (Kd.R_elder' (aR HO_3) (Kd.R_base ho0) hb); have n1_ := aM (Kd.R_elder' (aR HO_4) (Kd.R_base ho0) hb); have n2_ := aM (Kd.R_lower (Kd.R_newB (Kd.R_new' (Kd.R_new' ho0 (Kd.R_lt (aR HO_3))) (Kd.R_lt (aR HO_4))) (g := gb339) (aB BK339)) (below_size (by repeat (first | (with_reducible first | exact HB.out | apply aW1 | apply aW2 | apply aW3 | refine below_set ?_ GE339.out) | exact HB.out)))); have n3_ := bb BK339 hb; have n4_ := aM (below_step (by repeat (first | (with_reducible first | exact HB.out | apply aW1 | apply aW2 | apply aW3 | refine below_set ?_ GE339.out) | exact HB.out)) hb); clear HO_3 HO_4 BK339 HB; have HO_3 := n0_; have HO_4 := n1_; have HO365 := n2_; have BK339 := n3_; have HB := n4_; clear n0_ n1_ n2_ n3_ n4_; (try clear hb); (try clear hb2); (try clear hk); (try clear hi); (try clear ho0)))
      go_loopg [20] kj12 (fun kq v20 w' => ∃ (x20_2 : Int), v20 = .int .i64 x20_2 ∧ Aside0 (laws_FnSets.l0 kq t323 t326 t362 t363 x20_2 = some r) ∧ Aside0 (kq ≤ kj12) ∧ Aside0 (Kd.R k86 86 w' w.heap.size (fun k_ => some k_ ≠ ((.slice Ao90 t326.length co90) : Value).ownBlock ∧ some k_ ≠ (v364 : Value).ownBlock ∧ k_ ≠ gb339) (.slice Ao15 t323.length co15) t323) ∧ Aside0 (Kd.R k86 86 w' w.heap.size (fun k_ => some k_ ≠ ((.slice Ao15 t323.length co15) : Value).ownBlock ∧ some k_ ≠ (v364 : Value).ownBlock ∧ k_ ≠ gb339) (.slice Ao90 t326.length co90) t326) ∧ Aside0 (Kd.R k86 86 w' w.heap.size (fun k_ => some k_ ≠ ((.slice Ao15 t323.length co15) : Value).ownBlock ∧ some k_ ≠ ((.slice Ao90 t326.length co90) : Value).ownBlock ∧ k_ ≠ gb339) v364 t362) ∧ Aside0 (w'.heap[gb339]? = some (.cells #[.string t337, .string t338] 86 (0, 0))) ∧ Aside0 (Below w.heap.size w w'))
      case atStart => exact ⟨(0), (by first | rfl | (simp; done) | (simp [*]; done)), H', ⟨Nat.le_refl _⟩, ⟨by (with_reducible repeat (first | apply aR1 | apply aR2 | apply aR3)); exact Kd.R_mono HO_3.out (fun _ hk => ⟨hk.1.1, ⟨hk.2, hk.1.2⟩⟩)⟩, ⟨by (with_reducible repeat (first | apply aR1 | apply aR2 | apply aR3)); exact Kd.R_mono HO_4.out (fun _ hk => ⟨hk.1.1, ⟨hk.2, hk.1.2⟩⟩)⟩, ⟨by (with_reducible repeat (first | apply aR1 | apply aR2 | apply aR3)); exact Kd.R_mono HO365.out (fun _ hk => ⟨hk.1.1.2, ⟨hk.1.2, hk.2⟩⟩)⟩, ⟨by (with_reducible repeat (first | refine aB1 ?_ _ | refine aB2 ?_ | refine aB3 ?_ _)); exact BK339.out⟩, ⟨by repeat (first | (with_reducible first | exact HB.out | apply aW1 | apply aW2 | apply aW3 | refine below_set ?_ GE339.out) | exact HB.out)⟩⟩
      case round =>
       clear H'
       try clear c2
       try clear p2
       try clear c6
       try clear c7
       try clear c8
       try clear c28
       try clear c29
       try clear c65
       try clear c77
       try clear c78
       try clear c79
       try clear c87
       try clear c88
       try clear p2
       obtain ⟨x20_2, rfl, HA, HK2, HO_3, HO_4, HO_18, BK339, HB⟩ := hrel
       cases gk with
       | zero => exact absurd HA.out (by simp [laws_FnSets.l0])
       | succ k2 =>
        have H := HA.out
        clear HA
        simp only [laws_FnSets.l0] at H
        by_cases c92 : x20_2 < (t323.length : Int)
        ·rw [if_pos c92] at H; have c92b0 : decide (x20_2 < (t323.length : Int)) = true := decide_eq_true c92; clear c92
         by_cases c93 : 0 ≤ x20_2
         ·rw [if_pos c93] at H; have c93b0 : decide (0 ≤ x20_2) = true := decide_eq_true c93; clear c93; replace H := Option.bind_eq_some_iff.mp H
          obtain ⟨⟨t367, t368⟩, A940, H⟩ := H
          try dsimp only at H
          have A94 := aM A940
          clear A940
          by_cases c95 : t368 = true
          ·subst c95
           have H1 : (if t367.toList = ((rd_T86 t323 x20_2).f1).toList then (laws_FnSets.l0 k2 t323 t326 t362 t363 (wrap64 (x20_2 + 1))) else (some false)) = some r := by rw [if_pos rfl] at H; exact H
           clear H
           have H := H1
           clear H1
           by_cases c96 : t367.toList = ((rd_T86 t323 x20_2).f1).toList
           ·rw [if_pos c96] at H
            have c96b0 : (t367.toList == ((rd_T86 t323 x20_2).f1).toList) = true := beq_iff_eq.mpr c96
            have c96b1 : (t367.toList != ((rd_T86 t323 x20_2).f1).toList) = false := bne_eq_false_iff_eq.mpr c96
            clear c96
            have H' := aM H
            clear H
            have p366 : 0 ≤ (x20_2 : Int) := of_decide_eq_true (by first | (with_reducible assumption) | assumption)
            have q366 : x20_2 < (t323.length : Int) := of_decide_eq_true (by first | (with_reducible assumption) | assumption)
            obtain ⟨ad366, e366, hx366_0, hx366_1⟩ := at_T86 (Kd.R_reads' HO_3.out).2.2 x20_2 p366 q366
            cases e366
            replace p366 := eq_true p366
            replace q366 := eq_true q366
            go_wp2_with (first | ((with_reducible refine gate_callee (f := 74) rfl ?_); refine goesL_ (some 133) rfl rfl Try.func74 (by kernel_rfl) rfl #[.slice Ao90 t326.length co90, .string ((rd_T86 t323 x20_2).f0)] rfl (by (try simp only [List.map_toArray, List.map_cons, List.map_nil]); first | done | rfl | (simp only [List.length_drop, List.length_take]; rfl)) ?_; (with_reducible refine (impl_ValOf.calls k2 _ _ t326 ((rd_T86 t323 x20_2).f0) t367 true _ ?side1 ?side2 A94.out).mono ?_); (case side1 => repeat (first | exact (Kd.R_reads' HO_4.out).2.2 | (with_reducible refine Kd.C_alloc ?_ _) | (with_reducible refine Kd.C_drewN ?_ _) | (with_reducible refine Kd.C_drew ?_))); (case side2 => exact (Kd.R_reads' HO_4.out).2.1); rintro e w97 ⟨rfl, hb⟩; refine ⟨_, rfl, ?_⟩; have n0_ := rb HO_3 hb; have n1_ := rb HO_4 hb; have n2_ := rb HO_18 hb; have n3_ := bb BK339 hb; have n4_ := aM (below_step (by repeat (first | (with_reducible first | exact HB.out | apply aW1 | apply aW2 | apply aW3 | refine below_set ?_ GE339.out) | exact HB.out)) hb); clear HO_3 HO_4 HO_18 BK339 HB; have HO_3 := n0_; have HO_4 := n1_; have HO_18 := n2_; have BK339 := n3_; have HB := n4_; clear n0_ n1_ n2_ n3_ n4_; (try clear hb); (try clear hb2); (try clear hk); (try clear hi); have p369 : 0 ≤ (x20_2 : Int) := of_decide_eq_true (by first | (with_reducible assumption) | assumption); have q369 : x20_2 < (t323.length : Int) := of_decide_eq_true (by first | (with_reducible assumption) | assumption); obtain ⟨ad369, e369, hx369_0, hx369_1⟩ := at_T86 (Kd.R_reads' HO_3.out).2.2 x20_2 p369 q369; obtain rfl : ad366 = ad369 := (by injection e369); replace p369 := eq_true p369; replace q369 := eq_true q369))
            go_roundg k2
            case measure => have := HJ12.out; have := HK2.out; omega
            case rel => exact ⟨(wrap64 (x20_2 + 1)), (by first | rfl | (simp; done) | (simp [*]; done)), H', ⟨by have := HJ12.out; have := HK2.out; omega⟩, ⟨by (with_reducible repeat (first | apply aR1 | apply aR2 | apply aR3)); exact HO_3.out⟩, ⟨by (with_reducible repeat (first | apply aR1 | apply aR2 | apply aR3)); exact HO_4.out⟩, ⟨by (with_reducible repeat (first | apply aR1 | apply aR2 | apply aR3)); exact HO_18.out⟩, ⟨by (with_reducible repeat (first | refine aB1 ?_ _ | refine aB2 ?_ | refine aB3 ?_ _)); exact BK339.out⟩, ⟨by repeat (first | (with_reducible first | exact HB.out | apply aW1 | apply aW2 | apply aW3 | refine below_set ?_ GE339.out) | exact HB.out)⟩⟩
           ·rw [if_neg c96] at H
            have c96b0 : (t367.toList == ((rd_T86 t323 x20_2).f1).toList) = false := beq_eq_false_iff_ne.mpr c96
            have c96b1 : (t367.toList != ((rd_T86 t323 x20_2).f1).toList) = true := bne_iff_ne.mpr c96
            exact absurd (Option.some.inj H) (by rw [hr_.out]; decide)
          ·replace c95 := Bool.eq_false_iff.mpr c95
           subst c95
           have H1 : (some false) = some r := by rw [if_neg (show ¬ (false = true) by decide)] at H; exact H
           clear H
           have H := H1
           clear H1
           exact absurd (Option.some.inj H) (by rw [hr_.out]; decide)
         ·rw [if_neg c93] at H
          exact absurd H (by simp)
        ·rw [if_neg c92] at H; have c92b0 : decide (x20_2 < (t323.length : Int)) = false := decide_eq_false c92; clear c92; replace H := Option.bind_eq_some_iff.mp H; obtain ⟨t370, A980, H⟩ := H; try dsimp only at H
         have A98 := aM A980
         clear A980
         by_cases c99 : t370 = true
         ·subst c99
          have H1 : (if (t326.length : Int) = (t323.length : Int) then (if t363 = true then ((impl_SameSet.f k2 t362 t326).bind fun t371 => (some t371)) else (some false)) else (some false)) = some r := by rw [if_pos rfl] at H; exact H
          clear H
          have H := H1
          clear H1
          by_cases c100 : (t326.length : Int) = (t323.length : Int)
          ·rw [if_pos c100] at H
           have c100b0 : ((t326.length : Int) == (t323.length : Int)) = true := beq_iff_eq.mpr c100
           have c100b1 : ((t326.length : Int) != (t323.length : Int)) = false := bne_eq_false_iff_eq.mpr c100
           have c100b2 : (t326.length == t323.length) = true := by first | simpa using c100 | (simp at c100 ⊢; omega)
           clear c100
           by_cases c101 : t363 = true
           ·subst c101
            have H1 : ((impl_SameSet.f k2 t362 t326).bind fun t371 => (some t371)) = some r := by rw [if_pos rfl] at H; exact H
            clear H
            have H := H1
            clear H1; replace H := Option.bind_eq_some_iff.mp H; obtain ⟨t371, A1020, H⟩ := H; try dsimp only at H
            have A102 := aM A1020
            clear A1020
            obtain rfl := Option.some.inj H
            go_wp2_with (first | ((with_reducible refine gate_callee (f := 27) rfl ?_); refine goesL_ (some 148) rfl rfl Try.func27 (by kernel_rfl) rfl #[.slice Ao90 t326.length co90] rfl (by (try simp only [List.map_toArray, List.map_cons, List.map_nil]); first | done | rfl | (simp only [List.length_drop, List.length_take]; rfl)) ?_; (with_reducible refine (impl_SetOk.calls k2 _ _ t326 true _ ?side1 ?side2 A98.out).mono ?_); (case side1 => repeat (first | exact (Kd.R_reads' HO_4.out).2.2 | (with_reducible refine Kd.C_alloc ?_ _) | (with_reducible refine Kd.C_drewN ?_ _) | (with_reducible refine Kd.C_drew ?_))); (case side2 => exact (Kd.R_reads' HO_4.out).2.1); rintro e w103 ⟨rfl, hb⟩; refine ⟨_, rfl, ?_⟩; have n0_ := rb HO_3 hb; have n1_ := rb HO_4 hb; have n2_ := rb HO_18 hb; have n3_ := bb BK339 hb; have n4_ := aM (below_step (by repeat (first | (with_reducible first | exact HB.out | apply aW1 | apply aW2 | apply aW3 | refine below_set ?_ GE339.out) | exact HB.out)) hb); clear HO_3 HO_4 HO_18 BK339 HB; have HO_3 := n0_; have HO_4 := n1_; have HO_18 := n2_; have BK339 := n3_; have HB := n4_; clear n0_ n1_ n2_ n3_ n4_; (try clear hb); (try clear hb2); (try clear hk); (try clear hi); obtain ⟨Ao104, co104, eo104⟩ := Kd.R_slice HO_18.out; subst eo104) | (go_at_call 28; (with_reducible refine (impl_SameSet.calls k2 _ _ t362 _ _ t326 t371 _ ?side1 ?side2 ?side3 ?side4 A102.out).mono ?_); (case side1 => repeat (first | exact (Kd.R_reads' HO_18.out).2.2 | (with_reducible refine Kd.C_alloc ?_ _) | (with_reducible refine Kd.C_drewN ?_ _) | (with_reducible refine Kd.C_drew ?_))); (case side2 => exact (Kd.R_reads' HO_18.out).2.1); (case side3 => repeat (first | exact (Kd.R_reads' HO_4.out).2.2 | (with_reducible refine Kd.C_alloc ?_ _) | (with_reducible refine Kd.C_drewN ?_ _) | (with_reducible refine Kd.C_drew ?_))); (case side4 => exact (Kd.R_reads' HO_4.out).2.1); rintro e w' ⟨rfl, ⟨nd, rfl⟩⟩))
            go_ret
            exact ⟨by first | rfl | (simp [errW_none, errW_some] <;> rfl) | (simp [*, errW_none, errW_some] <;> rfl), by repeat (first | (with_reducible first | exact HB.out | apply aW1 | apply aW2 | apply aW3 | refine below_set ?_ GE339.out) | exact HB.out)⟩
           ·replace c101 := Bool.eq_false_iff.mpr c101
            subst c101
            have H1 : (some false) = some r := by rw [if_neg (show ¬ (false = true) by decide)] at H; exact H
            clear H
            have H := H1
            clear H1
            exact absurd (Option.some.inj H) (by rw [hr_.out]; decide)
          ·rw [if_neg c100] at H
           have c100b0 : ((t326.length : Int) == (t323.length : Int)) = false := beq_eq_false_iff_ne.mpr c100
           have c100b1 : ((t326.length : Int) != (t323.length : Int)) = true := bne_iff_ne.mpr c100
           have c100b2 : (t326.length == t323.length) = false := by first | simpa using c100 | (simp at c100 ⊢; omega)
           exact absurd (Option.some.inj H) (by rw [hr_.out]; decide)
         ·replace c99 := Bool.eq_false_iff.mpr c99
          subst c99
          have H1 : (some false) = some r := by rw [if_neg (show ¬ (false = true) by decide)] at H; exact H
          clear H
          have H := H1
          clear H1
          exact absurd (Option.some.inj H) (by rw [hr_.out]; decide)
     ·replace c88 := Bool.eq_false_iff.mpr c88
      subst c88
      have H1 : (if (t326.length : Int) = 0 then ((impl_SetOk.f kj12 t323).bind fun t361 => (some (!t361))) else (some false)) = some r := by rw [if_neg (show ¬ (false = true) by decide)] at H; exact H
      clear H
      have H := H1
      clear H1
      by_cases c105 : (t326.length : Int) = 0
      ·rw [if_pos c105] at H
       have c105b0 : ((t326.length : Int) == 0) = true := beq_iff_eq.mpr c105
       have c105b1 : ((t326.length : Int) != 0) = false := bne_eq_false_iff_eq.mpr c105
       clear c105; replace H := Option.bind_eq_some_iff.mp H; obtain ⟨t361, A1060, H⟩ := H; try dsimp only at H
       have A106 := aM A1060
       clear A1060
       obtain rfl := Option.some.inj H
       obtain ⟨Ao107, co107, eo107⟩ := Kd.R_slice HO_4.out
       subst eo107
       go_wp2_with (first | (go_at_call 27; (with_reducible refine (impl_SetOk.calls kj12 _ _ t323 t361 _ ?side1 ?side2 A106.out).mono ?_); (case side1 => repeat (first | exact (Kd.R_reads' HO_3.out).2.2 | (with_reducible refine Kd.C_alloc ?_ _) | (with_reducible refine Kd.C_drewN ?_ _) | (with_reducible refine Kd.C_drew ?_))); (case side2 => exact (Kd.R_reads' HO_3.out).2.1); rintro e w108 ⟨rfl, hb⟩; have n0_ := rb HO_3 hb; have n1_ := rb HO_4 hb; have n2_ := bb BK339 hb; have n3_ := aM (below_step (by repeat (first | (with_reducible first | exact HB.out | apply aW1 | apply aW2 | apply aW3 | refine below_set ?_ GE339.out) | exact HB.out)) hb); clear HO_3 HO_4 BK339 HB; have HO_3 := n0_; have HO_4 := n1_; have BK339 := n2_; have HB := n3_; clear n0_ n1_ n2_ n3_; (try clear hb); (try clear hb2); (try clear hk); (try clear hi)))
       go_ret
       exact ⟨by first | rfl | (simp [errW_none, errW_some] <;> rfl) | (simp [*, errW_none, errW_some] <;> rfl), by repeat (first | (with_reducible first | exact HB.out | apply aW1 | apply aW2 | apply aW3 | refine below_set ?_ GE339.out) | exact HB.out)⟩
      ·rw [if_neg c105] at H
       have c105b0 : ((t326.length : Int) == 0) = false := beq_eq_false_iff_ne.mpr c105
       have c105b1 : ((t326.length : Int) != 0) = true := bne_iff_ne.mpr c105
       have c105b2 : ¬ (t326 = []) := fun h_ => c105 (by rw [h_]; rfl)
       exact absurd (Option.some.inj H) (by rw [hr_.out]; decide)

/-- THE ONE PURE STATEMENT of laws_FnSets: yours. -/
def laws_FnSets.Pure : Prop := ∀ (l0 : List Int), l0.length ≤ maxLen → l0.length * 1 ≤ 140737488351232 → (∀ x ∈ l0, (Lit.int .u8 x).wf = true) → ∃ k, laws_FnSets.f k l0 = some true
theorem laws_FnSets.walk (P : laws_FnSets.Pure) (a0 : Option Addr) (len0 cap0 : Nat) (z0 : List Int) (w : World) (w0 : (a0 = none ∧ len0 = 0 ∧ cap0 = 0 ∧ z0 = []) ∨ ∃ x, a0 = some x ∧ len0 ≤ cap0 ∧ cap0 ≤ maxLen ∧ z0.length = cap0 ∧ (∀ i, i < z0.length → w.cell? (x.add i) = some (.int .u8 (z0.getD i 0))) ∧ ∀ n ∈ z0, (Lit.int .u8 n).wf = true) (y0 : len0 * 1 ≤ 140737488351232) :
  Calls Try.prog 7 #[.slice a0 len0 cap0] w fun e w' => e = .returned (.bool true) ∧ Below w.heap.size w w' := by
 obtain ⟨l0, rfl, hr0, hm0, hw0, hc0⟩ := ReadsInt.ofRowC w0
 obtain ⟨k, h⟩ := P l0 hm0 y0 hw0
 refine (laws_FnSets.calls k _ _ l0 true w (Kd.C_of_reads (d := (0 : Int)) (h1 := fun _ => rfl) hr0) hc0 ⟨rfl⟩ h).mono ?_
 rintro e w' ⟨rfl, hd⟩
 exact ⟨rfl, hd⟩

end
end Go.Proofs.Ytgindocfjoalhab.PFnSets
