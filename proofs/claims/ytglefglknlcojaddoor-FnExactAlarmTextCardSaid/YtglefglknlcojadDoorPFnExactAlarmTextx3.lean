/- What the Go functions that FnExactAlarmText reaches compute, as Lean functions, and that the machine's calls do so; no conditions. -/
import Derived.Test.YtglefglknlcojadDoorPFnExactAlarmTextx0
import Derived.Test.YtglefglknlcojadDoorPFnExactAlarmTextx1
import Derived.Test.YtglefglknlcojadDoorPFnExactAlarmTextx2
namespace Go.Proofs.YtglefglknlcojadDoor.PFnExactAlarmText
open Go.Proofs.YtglefglknlcojadDoor
open Go.RowKit Go.Proofs.YtglefglknlcojadDoorW.PrintWords Go.Proofs.YtglefglknlcojadDoorW.PrintLast Go.Proofs.YtglefglknlcojadDoorW.PrintMore
attribute [local go_sem] max2_int min2_int max_two min_two max_three min_three max_four min_four   -- for this text's walks alone
set_option linter.unusedVariables false
set_option linter.unusedSimpArgs false

/-! ### spec_AlarmOk: function 10 -/
def spec_AlarmOk.f (k : Nat) (l0_0 : List (S45)) (a0_1 : Int) (a0_2 : Int) (a0_3 : ByteArray) : Option (Bool) := (spec_SetOk.f k l0_0).bind fun t116 => (if t116 = true then (if (l0_0.length : Int) > 0 then ((spec_l1In.f a0_1 0 99999).bind fun t117 => (if t117 = true then ((spec_l1In.f a0_2 a0_1 99999).bind fun t118 => (if t118 = true then ((spec_PlainOk.f k a0_3).bind fun t119 => (some t119)) else (some false))) else (some false))) else (some false)) else (some false))
theorem spec_AlarmOk.mono : ∀ a0 a1 a2 a3 k, LeO (spec_AlarmOk.f k a0 a1 a2 a3) (spec_AlarmOk.f (k + 1) a0 a1 a2 a3) := by
 intro a0 a1 a2 a3 k
 unfold spec_AlarmOk.f
 repeat' first
   | (with_reducible exact spec_PlainOk.mono _ _)
   | (with_reducible exact spec_SetOk.mono _ _)
   | (with_reducible exact LeO.refl _)
   | (with_reducible exact LeO.none _)
   | (with_reducible refine LeO.ite ?_ ?_)
   | (with_reducible refine LeO.bind ?_ (fun _ => ?_))
   | exact spec_PlainOk.mono _ _
   | exact spec_SetOk.mono _ _
   | exact LeO.none _
   | refine LeO.ite ?_ ?_
   | refine LeO.bind ?_ (fun _ => ?_)
set_option maxHeartbeats 8000000 in
set_option maxRecDepth 100000 in
theorem spec_AlarmOk.calls (k : Nat) (A0_0 : Option Addr) (c0_0 : Nat) (l0_0 : List (S45)) (a0_1 : Int) (a0_2 : Int) (a0_3 : ByteArray) (r : Bool) (w : World) (hr0_0 : Kd.C k45 w A0_0 l0_0.length l0_0) (hc0_0 : l0_0.length ≤ c0_0) (h : spec_AlarmOk.f k l0_0 a0_1 a0_2 a0_3 = some r) :
  Calls Tryd.prog 10 #[.agg #[.slice A0_0 l0_0.length c0_0, .int .i64 a0_1, .int .i64 a0_2, .string a0_3]] w fun e w' => e = .returned (.bool r) ∧ Below w.heap.size w w' := by
 have hu29 := Tryd.underlying29
 have HR0_0 := aM hr0_0
 have HC0_0 := aM hc0_0
 clear hr0_0 hc0_0
 have HB := aM (Below.refl w.heap.size w)
 have H : ((spec_SetOk.f k l0_0).bind fun t116 => (if t116 = true then (if (l0_0.length : Int) > 0 then ((spec_l1In.f a0_1 0 99999).bind fun t117 => (if t117 = true then ((spec_l1In.f a0_2 a0_1 99999).bind fun t118 => (if t118 = true then ((spec_PlainOk.f k a0_3).bind fun t119 => (some t119)) else (some false))) else (some false))) else (some false)) else (some false))) = some r := h
 clear h; replace H := Option.bind_eq_some_iff.mp H; obtain ⟨t116, A20, H⟩ := H; try dsimp only at H
 have A2 := aM A20
 clear A20
 by_cases c3 : t116 = true
 ·subst c3
  have H1 : (if (l0_0.length : Int) > 0 then ((spec_l1In.f a0_1 0 99999).bind fun t117 => (if t117 = true then ((spec_l1In.f a0_2 a0_1 99999).bind fun t118 => (if t118 = true then ((spec_PlainOk.f k a0_3).bind fun t119 => (some t119)) else (some false))) else (some false))) else (some false)) = some r := by rw [if_pos rfl] at H; exact H
  clear H
  have H := H1
  clear H1
  by_cases c4 : (l0_0.length : Int) > 0
  ·rw [if_pos c4] at H; have c4b0 : decide (0 < (l0_0.length : Int)) = true := decide_eq_true c4
   have c4b1 : decide (0 < l0_0.length) = true := decide_eq_true (by omega)
   clear c4; replace H := Option.bind_eq_some_iff.mp H; obtain ⟨t117, A50, H⟩ := H; try dsimp only at H
   have A5 := aM A50
   clear A50
   by_cases c6 : t117 = true
   ·subst c6
    have H1 : ((spec_l1In.f a0_2 a0_1 99999).bind fun t118 => (if t118 = true then ((spec_PlainOk.f k a0_3).bind fun t119 => (some t119)) else (some false))) = some r := by rw [if_pos rfl] at H; exact H
    clear H
    have H := H1
    clear H1; replace H := Option.bind_eq_some_iff.mp H; obtain ⟨t118, A70, H⟩ := H; try dsimp only at H
    have A7 := aM A70
    clear A70
    by_cases c8 : t118 = true
    ·subst c8
     have H1 : ((spec_PlainOk.f k a0_3).bind fun t119 => (some t119)) = some r := by rw [if_pos rfl] at H; exact H
     clear H
     have H := H1
     clear H1; replace H := Option.bind_eq_some_iff.mp H; obtain ⟨t119, A90, H⟩ := H; try dsimp only at H
     have A9 := aM A90
     clear A90
     obtain rfl := Option.some.inj H
     go_enter Tryd.func10, Tryd.ntmps10
     go_wp2_with (first | ((with_reducible refine gate_dst (N := 1) rfl ?_); (try (refine gate_guard (by rfl) ?_; dsimp only)); refine box_event ?hg (N := 1) ?hd (cs := #[.slice A0_0 l0_0.length c0_0, .int .i64 a0_1, .int .i64 a0_2, .string a0_3]) (t := 29) ?hr ?_; (case hd => rfl); (case hg => rfl); (case hr => first | (go_simp; done) | (go_simp; rfl)); intro gb115 hg w10 hbox hb; have n0_ := aM (below_step (by repeat (first | (with_reducible first | exact HB.out | apply aW1 | apply aW2 | apply aW3) | exact HB.out)) hb); have n1_ := aM (hbox); have n2_ := aM ((by rw [hg]; exact (below_size (by repeat (first | (with_reducible first | exact HB.out | apply aW1 | apply aW2 | apply aW3) | exact HB.out))) : w.heap.size ≤ gb115)); have n3_ := aM ((by rw [hg]; exact (below_size (by repeat (first | (with_reducible first | exact HB.out | apply aW1 | apply aW2 | apply aW3) | exact HB.out))) : w.heap.size ≤ gb115)); clear HB; have HB := n0_; have BK115 := n1_; have GW115 := n2_; have GE115 := n3_; clear n0_ n1_ n2_ n3_ hb hbox hg; have hcz11_0 := cz4_0 BK115; have hcz11_1 := cz4_1 BK115; have hcz11_2 := cz4_2 BK115; have hcz11_3 := cz4_3 BK115; have hfz11_0 := blk_frozen BK115.out 0; have hfz11_1 := blk_frozen BK115.out 1; have hfz11_2 := blk_frozen BK115.out 2; have hfz11_3 := blk_frozen BK115.out 3) | ((with_reducible refine gate_callee (f := 19) rfl ?_); refine goesL_ (some 5) rfl rfl Tryd.func19 (by kernel_rfl) rfl #[.slice A0_0 l0_0.length c0_0] rfl (by (try simp only [List.map_toArray, List.map_cons, List.map_nil]); first | done | rfl | (simp only [List.length_drop, List.length_take]; rfl)) ?_; (with_reducible refine (spec_SetOk.calls k _ _ l0_0 true _ ?side1 ?side2 A2.out).mono ?_); (case side1 => repeat (first | exact (Kd.C_below HR0_0.out HB.out) | (with_reducible refine Kd.C_alloc ?_ _) | (with_reducible refine Kd.C_drewN ?_ _) | (with_reducible refine Kd.C_drew ?_))); (case side2 => exact HC0_0.out); rintro e w12 ⟨rfl, hb⟩; refine ⟨_, rfl, ?_⟩; have n0_ := bb BK115 hb; have n1_ := aM (below_step (by repeat (first | (with_reducible first | exact HB.out | apply aW1 | apply aW2 | apply aW3 | refine below_set ?_ GE115.out) | exact HB.out)) hb); clear BK115 HB; have BK115 := n0_; have HB := n1_; clear n0_ n1_; (try clear hb); (try clear hb2); (try clear hk); (try clear hi); have hcz13_0 := cz4_0 BK115; have hcz13_1 := cz4_1 BK115; have hcz13_2 := cz4_2 BK115; have hcz13_3 := cz4_3 BK115; have hfz13_0 := blk_frozen BK115.out 0; have hfz13_1 := blk_frozen BK115.out 1; have hfz13_2 := blk_frozen BK115.out 2; have hfz13_3 := blk_frozen BK115.out 3) | (go_at_call 20; (with_reducible refine (spec_l1In.calls a0_1 0 99999 true _ A5.out).mono ?_); rintro e w' ⟨rfl, ⟨nd, rfl⟩⟩) | (go_at_call 20; (with_reducible refine (spec_l1In.calls a0_2 a0_1 99999 true _ A7.out).mono ?_); rintro e w' ⟨rfl, ⟨nd, rfl⟩⟩) | (go_at_call 21; (with_reducible refine (spec_PlainOk.calls k a0_3 t119 _ A9.out).mono ?_); rintro e w' ⟨rfl, ⟨nd, rfl⟩⟩))
     go_ret
     exact ⟨by first | rfl | (simp [errW_none, errW_some] <;> rfl) | (simp [*, errW_none, errW_some] <;> rfl), by repeat (first | (with_reducible first | exact HB.out | apply aW1 | apply aW2 | apply aW3 | refine below_set ?_ GE115.out) | exact HB.out)⟩
    ·replace c8 := Bool.eq_false_iff.mpr c8
     subst c8
     have H1 : (some false) = some r := by rw [if_neg (show ¬ (false = true) by decide)] at H; exact H
     clear H
     have H := H1
     clear H1
     obtain rfl := Option.some.inj H
     go_enter Tryd.func10, Tryd.ntmps10
     go_wp2_with (first | ((with_reducible refine gate_dst (N := 1) rfl ?_); (try (refine gate_guard (by rfl) ?_; dsimp only)); refine box_event ?hg (N := 1) ?hd (cs := #[.slice A0_0 l0_0.length c0_0, .int .i64 a0_1, .int .i64 a0_2, .string a0_3]) (t := 29) ?hr ?_; (case hd => rfl); (case hg => rfl); (case hr => first | (go_simp; done) | (go_simp; rfl)); intro gb115 hg w14 hbox hb; have n0_ := aM (below_step (by repeat (first | (with_reducible first | exact HB.out | apply aW1 | apply aW2 | apply aW3) | exact HB.out)) hb); have n1_ := aM (hbox); have n2_ := aM ((by rw [hg]; exact (below_size (by repeat (first | (with_reducible first | exact HB.out | apply aW1 | apply aW2 | apply aW3) | exact HB.out))) : w.heap.size ≤ gb115)); have n3_ := aM ((by rw [hg]; exact (below_size (by repeat (first | (with_reducible first | exact HB.out | apply aW1 | apply aW2 | apply aW3) | exact HB.out))) : w.heap.size ≤ gb115)); clear HB; have HB := n0_; have BK115 := n1_; have GW115 := n2_; have GE115 := n3_; clear n0_ n1_ n2_ n3_ hb hbox hg; have hcz15_0 := cz4_0 BK115; have hcz15_1 := cz4_1 BK115; have hcz15_2 := cz4_2 BK115; have hcz15_3 := cz4_3 BK115; have hfz15_0 := blk_frozen BK115.out 0; have hfz15_1 := blk_frozen BK115.out 1; have hfz15_2 := blk_frozen BK115.out 2; have hfz15_3 := blk_frozen BK115.out 3) | ((with_reducible refine gate_callee (f := 19) rfl ?_); refine goesL_ (some 5) rfl rfl Tryd.func19 (by kernel_rfl) rfl #[.slice A0_0 l0_0.length c0_0] rfl (by (try simp only [List.map_toArray, List.map_cons, List.map_nil]); first | done | rfl | (simp only [List.length_drop, List.length_take]; rfl)) ?_; (with_reducible refine (spec_SetOk.calls k _ _ l0_0 true _ ?side1 ?side2 A2.out).mono ?_); (case side1 => repeat (first | exact (Kd.C_below HR0_0.out HB.out) | (with_reducible refine Kd.C_alloc ?_ _) | (with_reducible refine Kd.C_drewN ?_ _) | (with_reducible refine Kd.C_drew ?_))); (case side2 => exact HC0_0.out); rintro e w16 ⟨rfl, hb⟩; refine ⟨_, rfl, ?_⟩; have n0_ := bb BK115 hb; have n1_ := aM (below_step (by repeat (first | (with_reducible first | exact HB.out | apply aW1 | apply aW2 | apply aW3 | refine below_set ?_ GE115.out) | exact HB.out)) hb); clear BK115 HB; have BK115 := n0_; have HB := n1_; clear n0_ n1_; (try clear hb); (try clear hb2); (try clear hk); (try clear hi); have hcz17_0 := cz4_0 BK115; have hcz17_1 := cz4_1 BK115; have hcz17_2 := cz4_2 BK115; have hcz17_3 := cz4_3 BK115; have hfz17_0 := blk_frozen BK115.out 0; have hfz17_1 := blk_frozen BK115.out 1; have hfz17_2 := blk_frozen BK115.out 2; have hfz17_3 := blk_frozen BK115.out 3) | (go_at_call 20; (with_reducible refine (spec_l1In.calls a0_1 0 99999 true _ A5.out).mono ?_); rintro e w' ⟨rfl, ⟨nd, rfl⟩⟩) | (go_at_call 20; (with_reducible refine (spec_l1In.calls a0_2 a0_1 99999 false _ A7.out).mono ?_); rintro e w' ⟨rfl, ⟨nd, rfl⟩⟩))
     go_ret
     exact ⟨by first | rfl | (simp [errW_none, errW_some] <;> rfl) | (simp [*, errW_none, errW_some] <;> rfl), by repeat (first | (with_reducible first | exact HB.out | apply aW1 | apply aW2 | apply aW3 | refine below_set ?_ GE115.out) | exact HB.out)⟩
   ·replace c6 := Bool.eq_false_iff.mpr c6
    subst c6
    have H1 : (some false) = some r := by rw [if_neg (show ¬ (false = true) by decide)] at H; exact H
    clear H
    have H := H1
    clear H1
    obtain rfl := Option.some.inj H
    go_enter Tryd.func10, Tryd.ntmps10
    go_wp2_with (first | ((with_reducible refine gate_dst (N := 1) rfl ?_); (try (refine gate_guard (by rfl) ?_; dsimp only)); refine box_event ?hg (N := 1) ?hd (cs := #[.slice A0_0 l0_0.length c0_0, .int .i64 a0_1, .int .i64 a0_2, .string a0_3]) (t := 29) ?hr ?_; (case hd => rfl); (case hg => rfl); (case hr => first | (go_simp; done) | (go_simp; rfl)); intro gb115 hg w18 hbox hb; have n0_ := aM (below_step (by repeat (first | (with_reducible first | exact HB.out | apply aW1 | apply aW2 | apply aW3) | exact HB.out)) hb); have n1_ := aM (hbox); have n2_ := aM ((by rw [hg]; exact (below_size (by repeat (first | (with_reducible first | exact HB.out | apply aW1 | apply aW2 | apply aW3) | exact HB.out))) : w.heap.size ≤ gb115)); have n3_ := aM ((by rw [hg]; exact (below_size (by repeat (first | (with_reducible first | exact HB.out | apply aW1 | apply aW2 | apply aW3) | exact HB.out))) : w.heap.size ≤ gb115)); clear HB; have HB := n0_; have BK115 := n1_; have GW115 := n2_; have GE115 := n3_; clear n0_ n1_ n2_ n3_ hb hbox hg; have hcz19_0 := cz4_0 BK115; have hcz19_1 := cz4_1 BK115; have hcz19_2 := cz4_2 BK115; have hcz19_3 := cz4_3 BK115; have hfz19_0 := blk_frozen BK115.out 0; have hfz19_1 := blk_frozen BK115.out 1; have hfz19_2 := blk_frozen BK115.out 2; have hfz19_3 := blk_frozen BK115.out 3) | ((with_reducible refine gate_callee (f := 19) rfl ?_); refine goesL_ (some 5) rfl rfl Tryd.func19 (by kernel_rfl) rfl #[.slice A0_0 l0_0.length c0_0] rfl (by (try simp only [List.map_toArray, List.map_cons, List.map_nil]); first | done | rfl | (simp only [List.length_drop, List.length_take]; rfl)) ?_; (with_reducible refine (spec_SetOk.calls k _ _ l0_0 true _ ?side1 ?side2 A2.out).mono ?_); (case side1 => repeat (first | exact (Kd.C_below HR0_0.out HB.out) | (with_reducible refine Kd.C_alloc ?_ _) | (with_reducible refine Kd.C_drewN ?_ _) | (with_reducible refine Kd.C_drew ?_))); (case side2 => exact HC0_0.out); rintro e w20 ⟨rfl, hb⟩; refine ⟨_, rfl, ?_⟩; have n0_ := bb BK115 hb; have n1_ := aM (below_step (by repeat (first | (with_reducible first | exact HB.out | apply aW1 | apply aW2 | apply aW3 | refine below_set ?_ GE115.out) | exact HB.out)) hb); clear BK115 HB; have BK115 := n0_; have HB := n1_; clear n0_ n1_; (try clear hb); (try clear hb2); (try clear hk); (try clear hi); have hcz21_0 := cz4_0 BK115; have hcz21_1 := cz4_1 BK115; have hcz21_2 := cz4_2 BK115; have hcz21_3 := cz4_3 BK115; have hfz21_0 := blk_frozen BK115.out 0; have hfz21_1 := blk_frozen BK115.out 1; have hfz21_2 := blk_frozen BK115.out 2; have hfz21_3 := blk_frozen BK115.out 3) | (go_at_call 20; (with_reducible refine (spec_l1In.calls a0_1 0 99999 false _ A5.out).mono ?_); rintro e w' ⟨rfl, ⟨nd, rfl⟩⟩))
    go_ret
    exact ⟨by first | rfl | (simp [errW_none, errW_some] <;> rfl) | (simp [*, errW_none, errW_some] <;> rfl), by repeat (first | (with_reducible first | exact HB.out | apply aW1 | apply aW2 | apply aW3 | refine below_set ?_ GE115.out) | exact HB.out)⟩
  ·rw [if_neg c4] at H; have c4b0 : decide (0 < (l0_0.length : Int)) = false := decide_eq_false c4
   have c4b1 : decide (0 < l0_0.length) = false := decide_eq_false (by omega)
   clear c4
   obtain rfl := Option.some.inj H
   go_enter Tryd.func10, Tryd.ntmps10
   go_wp2_with (first | ((with_reducible refine gate_dst (N := 1) rfl ?_); (try (refine gate_guard (by rfl) ?_; dsimp only)); refine box_event ?hg (N := 1) ?hd (cs := #[.slice A0_0 l0_0.length c0_0, .int .i64 a0_1, .int .i64 a0_2, .string a0_3]) (t := 29) ?hr ?_; (case hd => rfl); (case hg => rfl); (case hr => first | (go_simp; done) | (go_simp; rfl)); intro gb115 hg w22 hbox hb; have n0_ := aM (below_step (by repeat (first | (with_reducible first | exact HB.out | apply aW1 | apply aW2 | apply aW3) | exact HB.out)) hb); have n1_ := aM (hbox); have n2_ := aM ((by rw [hg]; exact (below_size (by repeat (first | (with_reducible first | exact HB.out | apply aW1 | apply aW2 | apply aW3) | exact HB.out))) : w.heap.size ≤ gb115)); have n3_ := aM ((by rw [hg]; exact (below_size (by repeat (first | (with_reducible first | exact HB.out | apply aW1 | apply aW2 | apply aW3) | exact HB.out))) : w.heap.size ≤ gb115)); clear HB; have HB := n0_; have BK115 := n1_; have GW115 := n2_; have GE115 := n3_; clear n0_ n1_ n2_ n3_ hb hbox hg; have hcz23_0 := cz4_0 BK115; have hcz23_1 := cz4_1 BK115; have hcz23_2 := cz4_2 BK115; have hcz23_3 := cz4_3 BK115; have hfz23_0 := blk_frozen BK115.out 0; have hfz23_1 := blk_frozen BK115.out 1; have hfz23_2 := blk_frozen BK115.out 2; have hfz23_3 := blk_frozen BK115.out 3) | ((with_reducible refine gate_callee (f := 19) rfl ?_); refine goesL_ (some 5) rfl rfl Tryd.func19 (by kernel_rfl) rfl #[.slice A0_0 l0_0.length c0_0] rfl (by (try simp only [List.map_toArray, List.map_cons, List.map_nil]); first | done | rfl | (simp only [List.length_drop, List.length_take]; rfl)) ?_; (with_reducible refine (spec_SetOk.calls k _ _ l0_0 true _ ?side1 ?side2 A2.out).mono ?_); (case side1 => repeat (first | exact (Kd.C_below HR0_0.out HB.out) | (with_reducible refine Kd.C_alloc ?_ _) | (with_reducible refine Kd.C_drewN ?_ _) | (with_reducible refine Kd.C_drew ?_))); (case side2 => exact HC0_0.out); rintro e w24 ⟨rfl, hb⟩; refine ⟨_, rfl, ?_⟩; have n0_ := bb BK115 hb; have n1_ := aM (below_step (by repeat (first | (with_reducible first | exact HB.out | apply aW1 | apply aW2 | apply aW3 | refine below_set ?_ GE115.out) | exact HB.out)) hb); clear BK115 HB; have BK115 := n0_; have HB := n1_; clear n0_ n1_; (try clear hb); (try clear hb2); (try clear hk); (try clear hi); have hcz25_0 := cz4_0 BK115; have hcz25_1 := cz4_1 BK115; have hcz25_2 := cz4_2 BK115; have hcz25_3 := cz4_3 BK115; have hfz25_0 := blk_frozen BK115.out 0; have hfz25_1 := blk_frozen BK115.out 1; have hfz25_2 := blk_frozen BK115.out 2; have hfz25_3 := blk_frozen BK115.out 3))
   go_ret
   exact ⟨by first | rfl | (simp [errW_none, errW_some] <;> rfl) | (simp [*, errW_none, errW_some] <;> rfl), by repeat (first | (with_reducible first | exact HB.out | apply aW1 | apply aW2 | apply aW3 | refine below_set ?_ GE115.out) | exact HB.out)⟩
 ·replace c3 := Bool.eq_false_iff.mpr c3
  subst c3
  have H1 : (some false) = some r := by rw [if_neg (show ¬ (false = true) by decide)] at H; exact H
  clear H
  have H := H1
  clear H1
  obtain rfl := Option.some.inj H
  go_enter Tryd.func10, Tryd.ntmps10
  go_wp2_with (first | ((with_reducible refine gate_dst (N := 1) rfl ?_); (try (refine gate_guard (by rfl) ?_; dsimp only)); refine box_event ?hg (N := 1) ?hd (cs := #[.slice A0_0 l0_0.length c0_0, .int .i64 a0_1, .int .i64 a0_2, .string a0_3]) (t := 29) ?hr ?_; (case hd => rfl); (case hg => rfl); (case hr => first | (go_simp; done) | (go_simp; rfl)); intro gb115 hg w26 hbox hb; have n0_ := aM (below_step (by repeat (first | (with_reducible first | exact HB.out | apply aW1 | apply aW2 | apply aW3) | exact HB.out)) hb); have n1_ := aM (hbox); have n2_ := aM ((by rw [hg]; exact (below_size (by repeat (first | (with_reducible first | exact HB.out | apply aW1 | apply aW2 | apply aW3) | exact HB.out))) : w.heap.size ≤ gb115)); have n3_ := aM ((by rw [hg]; exact (below_size (by repeat (first | (with_reducible first | exact HB.out | apply aW1 | apply aW2 | apply aW3) | exact HB.out))) : w.heap.size ≤ gb115)); clear HB; have HB := n0_; have BK115 := n1_; have GW115 := n2_; have GE115 := n3_; clear n0_ n1_ n2_ n3_ hb hbox hg; have hcz27_0 := cz4_0 BK115; have hcz27_1 := cz4_1 BK115; have hcz27_2 := cz4_2 BK115; have hcz27_3 := cz4_3 BK115; have hfz27_0 := blk_frozen BK115.out 0; have hfz27_1 := blk_frozen BK115.out 1; have hfz27_2 := blk_frozen BK115.out 2; have hfz27_3 := blk_frozen BK115.out 3) | ((with_reducible refine gate_callee (f := 19) rfl ?_); refine goesL_ (some 5) rfl rfl Tryd.func19 (by kernel_rfl) rfl #[.slice A0_0 l0_0.length c0_0] rfl (by (try simp only [List.map_toArray, List.map_cons, List.map_nil]); first | done | rfl | (simp only [List.length_drop, List.length_take]; rfl)) ?_; (with_reducible refine (spec_SetOk.calls k _ _ l0_0 false _ ?side1 ?side2 A2.out).mono ?_); (case side1 => repeat (first | exact (Kd.C_below HR0_0.out HB.out) | (with_reducible refine Kd.C_alloc ?_ _) | (with_reducible refine Kd.C_drewN ?_ _) | (with_reducible refine Kd.C_drew ?_))); (case side2 => exact HC0_0.out); rintro e w28 ⟨rfl, hb⟩; refine ⟨_, rfl, ?_⟩; have n0_ := bb BK115 hb; have n1_ := aM (below_step (by repeat (first | (with_reducible first | exact HB.out | apply aW1 | apply aW2 | apply aW3 | refine below_set ?_ GE115.out) | exact HB.out)) hb); clear BK115 HB; have BK115 := n0_; have HB := n1_; clear n0_ n1_; (try clear hb); (try clear hb2); (try clear hk); (try clear hi)))
  go_ret
  exact ⟨by first | rfl | (simp [errW_none, errW_some] <;> rfl) | (simp [*, errW_none, errW_some] <;> rfl), by repeat (first | (with_reducible first | exact HB.out | apply aW1 | apply aW2 | apply aW3 | refine below_set ?_ GE115.out) | exact HB.out)⟩

/-! ### spec_SetText: function 11 -/
def spec_SetText.l0 : Nat → List (S45) → ByteArray → Int → Option (ByteArray)
 | 0, _, _, _ => none
 | k + 1, x0, x3, x4 => if x4 < (x0.length : Int) then (if x4 > 0 then (if x3.size + 2 ≤ 9223372036854775807 then (if 0 ≤ x4 then (if (x3 ++ (⟨#[44, 32]⟩ : ByteArray)).size + ((rd_T45 x0 x4).f0).size ≤ 9223372036854775807 then (if ((x3 ++ (⟨#[44, 32]⟩ : ByteArray)) ++ ((rd_T45 x0 x4).f0)).size + 2 ≤ 9223372036854775807 then (if (((x3 ++ (⟨#[44, 32]⟩ : ByteArray)) ++ ((rd_T45 x0 x4).f0)) ++ (⟨#[61, 34]⟩ : ByteArray)).size + ((rd_T45 x0 x4).f1).size ≤ 9223372036854775807 then (if ((((x3 ++ (⟨#[44, 32]⟩ : ByteArray)) ++ ((rd_T45 x0 x4).f0)) ++ (⟨#[61, 34]⟩ : ByteArray)) ++ ((rd_T45 x0 x4).f1)).size + 1 ≤ 9223372036854775807 then (spec_SetText.l0 k x0 (((((x3 ++ (⟨#[44, 32]⟩ : ByteArray)) ++ ((rd_T45 x0 x4).f0)) ++ (⟨#[61, 34]⟩ : ByteArray)) ++ ((rd_T45 x0 x4).f1)) ++ (⟨#[34]⟩ : ByteArray)) (wrap64 (x4 + 1))) else (none)) else (none)) else (none)) else (none)) else (none)) else (none)) else (if 0 ≤ x4 then (if x3.size + ((rd_T45 x0 x4).f0).size ≤ 9223372036854775807 then (if (x3 ++ ((rd_T45 x0 x4).f0)).size + 2 ≤ 9223372036854775807 then (if ((x3 ++ ((rd_T45 x0 x4).f0)) ++ (⟨#[61, 34]⟩ : ByteArray)).size + ((rd_T45 x0 x4).f1).size ≤ 9223372036854775807 then (if (((x3 ++ ((rd_T45 x0 x4).f0)) ++ (⟨#[61, 34]⟩ : ByteArray)) ++ ((rd_T45 x0 x4).f1)).size + 1 ≤ 9223372036854775807 then (spec_SetText.l0 k x0 ((((x3 ++ ((rd_T45 x0 x4).f0)) ++ (⟨#[61, 34]⟩ : ByteArray)) ++ ((rd_T45 x0 x4).f1)) ++ (⟨#[34]⟩ : ByteArray)) (wrap64 (x4 + 1))) else (none)) else (none)) else (none)) else (none)) else (none))) else (if x3.size + 1 ≤ 9223372036854775807 then (some (x3 ++ (⟨#[125]⟩ : ByteArray))) else (none))
def spec_SetText.f (k : Nat) (l0 : List (S45)) : Option (ByteArray) := (spec_SetOk.f k l0).bind fun t120 => (if t120 = true then (spec_SetText.l0 k l0 (⟨#[123]⟩ : ByteArray) 0) else (some (⟨#[]⟩ : ByteArray)))
theorem spec_SetText.mono_l : ∀ k, (∀ y0 y1 y2, LeO (spec_SetText.l0 k y0 y1 y2) (spec_SetText.l0 (k + 1) y0 y1 y2))
 | 0 => fun _ _ _ r h => by simp [spec_SetText.l0] at h
 | k + 1 => by
  have ih0 := spec_SetText.mono_l k
  ·intro y0 y1 y2
   unfold spec_SetText.l0
   repeat' first
   | (with_reducible exact ih0 _ _ _)
   | (with_reducible exact spec_SetOk.mono _ _)
   | (with_reducible exact LeO.refl _)
   | (with_reducible exact LeO.none _)
   | (with_reducible refine LeO.ite ?_ ?_)
   | (with_reducible refine LeO.bind ?_ (fun _ => ?_))
   | exact ih0 _ _ _
   | exact spec_SetOk.mono _ _
   | exact LeO.none _
   | refine LeO.ite ?_ ?_
   | refine LeO.bind ?_ (fun _ => ?_)
theorem spec_SetText.mono : ∀ a0 k, LeO (spec_SetText.f k a0) (spec_SetText.f (k + 1) a0) := by
 intro a0 k
 have ih0 := spec_SetText.mono_l k
 unfold spec_SetText.f
 repeat' first
   | (with_reducible exact ih0 _ _ _)
   | (with_reducible exact spec_SetOk.mono _ _)
   | (with_reducible exact LeO.refl _)
   | (with_reducible exact LeO.none _)
   | (with_reducible refine LeO.ite ?_ ?_)
   | (with_reducible refine LeO.bind ?_ (fun _ => ?_))
   | exact ih0 _ _ _
   | exact spec_SetOk.mono _ _
   | exact LeO.none _
   | refine LeO.ite ?_ ?_
   | refine LeO.bind ?_ (fun _ => ?_)
set_option maxHeartbeats 8000000 in
set_option maxRecDepth 100000 in
theorem spec_SetText.calls (k : Nat) (A0 : Option Addr) (c0 : Nat) (l0 : List (S45)) (r : ByteArray) (w : World) (hr0 : Kd.C k45 w A0 l0.length l0) (hc0 : l0.length ≤ c0) (h : spec_SetText.f k l0 = some r) :
  Calls Tryd.prog 11 #[.slice A0 l0.length c0] w fun e w' => e = .returned (.string r) ∧ Below w.heap.size w w' := by
 have HR0 := aM hr0
 have HC0 := aM hc0
 clear hr0 hc0
 have HB := aM (Below.refl w.heap.size w)
 have H : ((spec_SetOk.f k l0).bind fun t120 => (if t120 = true then (spec_SetText.l0 k l0 (⟨#[123]⟩ : ByteArray) 0) else (some (⟨#[]⟩ : ByteArray)))) = some r := h
 clear h; replace H := Option.bind_eq_some_iff.mp H; obtain ⟨t120, A20, H⟩ := H; try dsimp only at H
 have A2 := aM A20
 clear A20
 by_cases c3 : t120 = true
 ·subst c3
  have H1 : (spec_SetText.l0 k l0 (⟨#[123]⟩ : ByteArray) 0) = some r := by rw [if_pos rfl] at H; exact H
  clear H
  have H := H1
  clear H1
  have H' := aM H
  clear H
  go_enter Tryd.func11, Tryd.ntmps11
  go_wp2_with (first | (go_at_call 19; (with_reducible refine (spec_SetOk.calls k _ _ l0 true _ ?side1 ?side2 A2.out).mono ?_); (case side1 => repeat (first | exact HR0.out | (with_reducible refine Kd.C_alloc ?_ _) | (with_reducible refine Kd.C_drewN ?_ _) | (with_reducible refine Kd.C_drew ?_))); (case side2 => exact HC0.out); rintro e w4 ⟨rfl, hb⟩; have n0_ := aM (below_step (by repeat (first | (with_reducible first | exact HB.out | apply aW1 | apply aW2 | apply aW3) | exact HB.out)) hb); clear HB; have HB := n0_; clear n0_; (try clear hb); (try clear hb2); (try clear hk); (try clear hi)))
  repeat (go_quiet (first | (go_at_call 19; (with_reducible refine (spec_SetOk.calls k _ _ l0 true _ ?side1 ?side2 A2.out).mono ?_); (case side1 => repeat (first | exact HR0.out | (with_reducible refine Kd.C_alloc ?_ _) | (with_reducible refine Kd.C_drewN ?_ _) | (with_reducible refine Kd.C_drew ?_))); (case side2 => exact HC0.out); rintro e w4 ⟨rfl, hb⟩; have n0_ := aM (below_step (by repeat (first | (with_reducible first | exact HB.out | apply aW1 | apply aW2 | apply aW3) | exact HB.out)) hb); clear HB; have HB := n0_; clear n0_; (try clear hb); (try clear hb2); (try clear hk); (try clear hi))); try go_wp2_with (first | (go_at_call 19; (with_reducible refine (spec_SetOk.calls k _ _ l0 true _ ?side1 ?side2 A2.out).mono ?_); (case side1 => repeat (first | exact HR0.out | (with_reducible refine Kd.C_alloc ?_ _) | (with_reducible refine Kd.C_drewN ?_ _) | (with_reducible refine Kd.C_drew ?_))); (case side2 => exact HC0.out); rintro e w4 ⟨rfl, hb⟩; have n0_ := aM (below_step (by repeat (first | (with_reducible first | exact HB.out | apply aW1 | apply aW2 | apply aW3) | exact HB.out)) hb); clear HB; have HB := n0_; clear n0_; (try clear hb); (try clear hb2); (try clear hk); (try clear hi))))
  go_loopg [3, 4] k (fun kq v3 v4 w' => ∃ (x3_1 : ByteArray) (x4_1 : Int), v3 = .string x3_1 ∧ v4 = .int .i64 x4_1 ∧ Aside0 (spec_SetText.l0 kq l0 x3_1 x4_1 = some r) ∧ Aside0 (kq ≤ k) ∧ Aside0 (Below w.heap.size w w'))
  case atStart => exact ⟨((⟨#[123]⟩ : ByteArray)), (0), (by first | rfl | (simp; done) | (simp [*]; done)), (by first | rfl | (simp; done) | (simp [*]; done)), H', ⟨Nat.le_refl _⟩, ⟨by repeat (first | (with_reducible first | exact HB.out | apply aW1 | apply aW2 | apply aW3) | exact HB.out)⟩⟩
  case round =>
   clear H'
   try clear c1
   try clear p2
   try clear c3
   obtain ⟨x3_1, x4_1, rfl, rfl, HA, HK1, HB⟩ := hrel
   cases gk with
   | zero => exact absurd HA.out (by simp [spec_SetText.l0])
   | succ k1 =>
    have H := HA.out
    clear HA
    simp only [spec_SetText.l0] at H
    by_cases c5 : x4_1 < (l0.length : Int)
    ·rw [if_pos c5] at H; have c5b0 : decide (x4_1 < (l0.length : Int)) = true := decide_eq_true c5; clear c5
     by_cases c6 : x4_1 > 0
     ·rw [if_pos c6] at H; have c6b0 : decide (0 < x4_1) = true := decide_eq_true c6; clear c6
      by_cases c7 : x3_1.size + 2 ≤ 9223372036854775807
      ·rw [if_pos c7] at H
       have c7b0 := eq_true c7
       have c7b1 : decide (x3_1.size + 2 ≤ 9223372036854775807) = true := decide_eq_true c7
       try have c7b2 : (9223372036854775807 < x3_1.size + 2) = False := eq_false (Nat.not_lt.2 c7)
       by_cases c8 : 0 ≤ x4_1
       ·rw [if_pos c8] at H; have c8b0 : decide (0 ≤ x4_1) = true := decide_eq_true c8; clear c8
        by_cases c9 : (x3_1 ++ (⟨#[44, 32]⟩ : ByteArray)).size + ((rd_T45 l0 x4_1).f0).size ≤ 9223372036854775807
        ·rw [if_pos c9] at H
         have c9b0 := eq_true c9
         have c9b1 : decide ((x3_1 ++ (⟨#[44, 32]⟩ : ByteArray)).size + ((rd_T45 l0 x4_1).f0).size ≤ 9223372036854775807) = true := decide_eq_true c9
         try have c9b2 : (9223372036854775807 < (x3_1 ++ (⟨#[44, 32]⟩ : ByteArray)).size + ((rd_T45 l0 x4_1).f0).size) = False := eq_false (Nat.not_lt.2 c9)
         try (have c9b3 := c9b2; simp only [ByteArray.size_append', ByteArray.size_mk', List.size_toArray, List.length_cons, List.length_nil, Nat.reduceAdd, Nat.zero_add] at c9b3)
         by_cases c10 : ((x3_1 ++ (⟨#[44, 32]⟩ : ByteArray)) ++ ((rd_T45 l0 x4_1).f0)).size + 2 ≤ 9223372036854775807
         ·rw [if_pos c10] at H
          have c10b0 := eq_true c10
          have c10b1 : decide (((x3_1 ++ (⟨#[44, 32]⟩ : ByteArray)) ++ ((rd_T45 l0 x4_1).f0)).size + 2 ≤ 9223372036854775807) = true := decide_eq_true c10
          try have c10b2 : (9223372036854775807 < ((x3_1 ++ (⟨#[44, 32]⟩ : ByteArray)) ++ ((rd_T45 l0 x4_1).f0)).size + 2) = False := eq_false (Nat.not_lt.2 c10)
          try (have c10b3 := c10b2; simp only [ByteArray.size_append', ByteArray.size_mk', List.size_toArray, List.length_cons, List.length_nil, Nat.reduceAdd, Nat.zero_add] at c10b3)
          by_cases c11 : (((x3_1 ++ (⟨#[44, 32]⟩ : ByteArray)) ++ ((rd_T45 l0 x4_1).f0)) ++ (⟨#[61, 34]⟩ : ByteArray)).size + ((rd_T45 l0 x4_1).f1).size ≤ 9223372036854775807
          ·rw [if_pos c11] at H
           have c11b0 := eq_true c11
           have c11b1 : decide ((((x3_1 ++ (⟨#[44, 32]⟩ : ByteArray)) ++ ((rd_T45 l0 x4_1).f0)) ++ (⟨#[61, 34]⟩ : ByteArray)).size + ((rd_T45 l0 x4_1).f1).size ≤ 9223372036854775807) = true := decide_eq_true c11
           try have c11b2 : (9223372036854775807 < (((x3_1 ++ (⟨#[44, 32]⟩ : ByteArray)) ++ ((rd_T45 l0 x4_1).f0)) ++ (⟨#[61, 34]⟩ : ByteArray)).size + ((rd_T45 l0 x4_1).f1).size) = False := eq_false (Nat.not_lt.2 c11)
           try (have c11b3 := c11b2; simp only [ByteArray.size_append', ByteArray.size_mk', List.size_toArray, List.length_cons, List.length_nil, Nat.reduceAdd, Nat.zero_add] at c11b3)
           by_cases c12 : ((((x3_1 ++ (⟨#[44, 32]⟩ : ByteArray)) ++ ((rd_T45 l0 x4_1).f0)) ++ (⟨#[61, 34]⟩ : ByteArray)) ++ ((rd_T45 l0 x4_1).f1)).size + 1 ≤ 9223372036854775807
           ·rw [if_pos c12] at H
            have c12b0 := eq_true c12
            have c12b1 : decide (((((x3_1 ++ (⟨#[44, 32]⟩ : ByteArray)) ++ ((rd_T45 l0 x4_1).f0)) ++ (⟨#[61, 34]⟩ : ByteArray)) ++ ((rd_T45 l0 x4_1).f1)).size + 1 ≤ 9223372036854775807) = true := decide_eq_true c12
            try have c12b2 : (9223372036854775807 < ((((x3_1 ++ (⟨#[44, 32]⟩ : ByteArray)) ++ ((rd_T45 l0 x4_1).f0)) ++ (⟨#[61, 34]⟩ : ByteArray)) ++ ((rd_T45 l0 x4_1).f1)).size + 1) = False := eq_false (Nat.not_lt.2 c12)
            try (have c12b3 := c12b2; simp only [ByteArray.size_append', ByteArray.size_mk', List.size_toArray, List.length_cons, List.length_nil, Nat.reduceAdd, Nat.zero_add] at c12b3)
            have H' := aM H
            clear H
            have p121 : 0 ≤ (x4_1 : Int) := of_decide_eq_true (by first | (with_reducible assumption) | assumption)
            have q121 : x4_1 < (l0.length : Int) := of_decide_eq_true (by first | (with_reducible assumption) | assumption)
            obtain ⟨ad121, e121, hx121_0, hx121_1⟩ := at_T45 HR0.out x4_1 p121 q121
            cases e121
            replace hx121_0 := (HB.out.cell (World.block_lt_of_cell? w _ hx121_0)).trans hx121_0
            replace hx121_1 := (HB.out.cell (World.block_lt_of_cell? w _ hx121_1)).trans hx121_1
            replace p121 := eq_true p121
            replace q121 := eq_true q121
            have p122 : 0 ≤ (x4_1 : Int) := of_decide_eq_true (by first | (with_reducible assumption) | assumption)
            have q122 : x4_1 < (l0.length : Int) := of_decide_eq_true (by first | (with_reducible assumption) | assumption)
            obtain ⟨ad122, e122, hx122_0, hx122_1⟩ := at_T45 HR0.out x4_1 p122 q122
            obtain rfl : ad121 = ad122 := (by injection e122)
            replace hx122_0 := (HB.out.cell (World.block_lt_of_cell? w _ hx122_0)).trans hx122_0
            replace hx122_1 := (HB.out.cell (World.block_lt_of_cell? w _ hx122_1)).trans hx122_1
            replace p122 := eq_true p122
            replace q122 := eq_true q122
            go_wp2
            repeat (go_quiet (fail); try go_wp2)
            go_roundg k1
            case measure => have := HK1.out; omega
            case rel => exact ⟨(((((x3_1 ++ (⟨#[44, 32]⟩ : ByteArray)) ++ ((rd_T45 l0 x4_1).f0)) ++ (⟨#[61, 34]⟩ : ByteArray)) ++ ((rd_T45 l0 x4_1).f1)) ++ (⟨#[34]⟩ : ByteArray)), (wrap64 (x4_1 + 1)), (by first | rfl | (simp; done) | (simp [*]; done)), (by first | rfl | (simp; done) | (simp [*]; done)), H', ⟨by have := HK1.out; omega⟩, ⟨by repeat (first | (with_reducible first | exact HB.out | apply aW1 | apply aW2 | apply aW3) | exact HB.out)⟩⟩
           ·rw [if_neg c12] at H
            exact absurd H (by simp)
          ·rw [if_neg c11] at H
           exact absurd H (by simp)
         ·rw [if_neg c10] at H
          exact absurd H (by simp)
        ·rw [if_neg c9] at H
         exact absurd H (by simp)
       ·rw [if_neg c8] at H
        exact absurd H (by simp)
      ·rw [if_neg c7] at H
       exact absurd H (by simp)
     ·rw [if_neg c6] at H; have c6b0 : decide (0 < x4_1) = false := decide_eq_false c6; clear c6
      by_cases c13 : 0 ≤ x4_1
      ·rw [if_pos c13] at H; have c13b0 : decide (0 ≤ x4_1) = true := decide_eq_true c13; clear c13
       by_cases c14 : x3_1.size + ((rd_T45 l0 x4_1).f0).size ≤ 9223372036854775807
       ·rw [if_pos c14] at H
        have c14b0 := eq_true c14
        have c14b1 : decide (x3_1.size + ((rd_T45 l0 x4_1).f0).size ≤ 9223372036854775807) = true := decide_eq_true c14
        try have c14b2 : (9223372036854775807 < x3_1.size + ((rd_T45 l0 x4_1).f0).size) = False := eq_false (Nat.not_lt.2 c14)
        by_cases c15 : (x3_1 ++ ((rd_T45 l0 x4_1).f0)).size + 2 ≤ 9223372036854775807
        ·rw [if_pos c15] at H
         have c15b0 := eq_true c15
         have c15b1 : decide ((x3_1 ++ ((rd_T45 l0 x4_1).f0)).size + 2 ≤ 9223372036854775807) = true := decide_eq_true c15
         try have c15b2 : (9223372036854775807 < (x3_1 ++ ((rd_T45 l0 x4_1).f0)).size + 2) = False := eq_false (Nat.not_lt.2 c15)
         try (have c15b3 := c15b2; simp only [ByteArray.size_append', ByteArray.size_mk', List.size_toArray, List.length_cons, List.length_nil, Nat.reduceAdd, Nat.zero_add] at c15b3)
         by_cases c16 : ((x3_1 ++ ((rd_T45 l0 x4_1).f0)) ++ (⟨#[61, 34]⟩ : ByteArray)).size + ((rd_T45 l0 x4_1).f1).size ≤ 9223372036854775807
         ·rw [if_pos c16] at H
          have c16b0 := eq_true c16
          have c16b1 : decide (((x3_1 ++ ((rd_T45 l0 x4_1).f0)) ++ (⟨#[61, 34]⟩ : ByteArray)).size + ((rd_T45 l0 x4_1).f1).size ≤ 9223372036854775807) = true := decide_eq_true c16
          try have c16b2 : (9223372036854775807 < ((x3_1 ++ ((rd_T45 l0 x4_1).f0)) ++ (⟨#[61, 34]⟩ : ByteArray)).size + ((rd_T45 l0 x4_1).f1).size) = False := eq_false (Nat.not_lt.2 c16)
          try (have c16b3 := c16b2; simp only [ByteArray.size_append', ByteArray.size_mk', List.size_toArray, List.length_cons, List.length_nil, Nat.reduceAdd, Nat.zero_add] at c16b3)
          by_cases c17 : (((x3_1 ++ ((rd_T45 l0 x4_1).f0)) ++ (⟨#[61, 34]⟩ : ByteArray)) ++ ((rd_T45 l0 x4_1).f1)).size + 1 ≤ 9223372036854775807
          ·rw [if_pos c17] at H
           have c17b0 := eq_true c17
           have c17b1 : decide ((((x3_1 ++ ((rd_T45 l0 x4_1).f0)) ++ (⟨#[61, 34]⟩ : ByteArray)) ++ ((rd_T45 l0 x4_1).f1)).size + 1 ≤ 9223372036854775807) = true := decide_eq_true c17
           try have c17b2 : (9223372036854775807 < (((x3_1 ++ ((rd_T45 l0 x4_1).f0)) ++ (⟨#[61, 34]⟩ : ByteArray)) ++ ((rd_T45 l0 x4_1).f1)).size + 1) = False := eq_false (Nat.not_lt.2 c17)
           try (have c17b3 := c17b2; simp only [ByteArray.size_append', ByteArray.size_mk', List.size_toArray, List.length_cons, List.length_nil, Nat.reduceAdd, Nat.zero_add] at c17b3)
           have H' := aM H
           clear H
           have p123 : 0 ≤ (x4_1 : Int) := of_decide_eq_true (by first | (with_reducible assumption) | assumption)
           have q123 : x4_1 < (l0.length : Int) := of_decide_eq_true (by first | (with_reducible assumption) | assumption)
           obtain ⟨ad123, e123, hx123_0, hx123_1⟩ := at_T45 HR0.out x4_1 p123 q123
           cases e123
           replace hx123_0 := (HB.out.cell (World.block_lt_of_cell? w _ hx123_0)).trans hx123_0
           replace hx123_1 := (HB.out.cell (World.block_lt_of_cell? w _ hx123_1)).trans hx123_1
           replace p123 := eq_true p123
           replace q123 := eq_true q123
           have p124 : 0 ≤ (x4_1 : Int) := of_decide_eq_true (by first | (with_reducible assumption) | assumption)
           have q124 : x4_1 < (l0.length : Int) := of_decide_eq_true (by first | (with_reducible assumption) | assumption)
           obtain ⟨ad124, e124, hx124_0, hx124_1⟩ := at_T45 HR0.out x4_1 p124 q124
           obtain rfl : ad123 = ad124 := (by injection e124)
           replace hx124_0 := (HB.out.cell (World.block_lt_of_cell? w _ hx124_0)).trans hx124_0
           replace hx124_1 := (HB.out.cell (World.block_lt_of_cell? w _ hx124_1)).trans hx124_1
           replace p124 := eq_true p124
           replace q124 := eq_true q124
           go_wp2
           repeat (go_quiet (fail); try go_wp2)
           go_roundg k1
           case measure => have := HK1.out; omega
           case rel => exact ⟨((((x3_1 ++ ((rd_T45 l0 x4_1).f0)) ++ (⟨#[61, 34]⟩ : ByteArray)) ++ ((rd_T45 l0 x4_1).f1)) ++ (⟨#[34]⟩ : ByteArray)), (wrap64 (x4_1 + 1)), (by first | rfl | (simp; done) | (simp [*]; done)), (by first | rfl | (simp; done) | (simp [*]; done)), H', ⟨by have := HK1.out; omega⟩, ⟨by repeat (first | (with_reducible first | exact HB.out | apply aW1 | apply aW2 | apply aW3) | exact HB.out)⟩⟩
          ·rw [if_neg c17] at H
           exact absurd H (by simp)
         ·rw [if_neg c16] at H
          exact absurd H (by simp)
        ·rw [if_neg c15] at H
         exact absurd H (by simp)
       ·rw [if_neg c14] at H
        exact absurd H (by simp)
      ·rw [if_neg c13] at H
       exact absurd H (by simp)
    ·rw [if_neg c5] at H; have c5b0 : decide (x4_1 < (l0.length : Int)) = false := decide_eq_false c5; clear c5
     by_cases c18 : x3_1.size + 1 ≤ 9223372036854775807
     ·rw [if_pos c18] at H
      have c18b0 := eq_true c18
      have c18b1 : decide (x3_1.size + 1 ≤ 9223372036854775807) = true := decide_eq_true c18
      try have c18b2 : (9223372036854775807 < x3_1.size + 1) = False := eq_false (Nat.not_lt.2 c18)
      obtain rfl := Option.some.inj H
      go_wp2
      repeat (go_quiet (fail); try go_wp2)
      go_ret
      exact ⟨by first | rfl | (simp [errW_none, errW_some] <;> rfl) | (simp [*, errW_none, errW_some] <;> rfl), by repeat (first | (with_reducible first | exact HB.out | apply aW1 | apply aW2 | apply aW3) | exact HB.out)⟩
     ·rw [if_neg c18] at H
      exact absurd H (by simp)
 ·replace c3 := Bool.eq_false_iff.mpr c3
  subst c3
  have H1 : (some (⟨#[]⟩ : ByteArray)) = some r := by rw [if_neg (show ¬ (false = true) by decide)] at H; exact H
  clear H
  have H := H1
  clear H1
  obtain rfl := Option.some.inj H
  go_enter Tryd.func11, Tryd.ntmps11
  go_wp2_with (first | (go_at_call 19; (with_reducible refine (spec_SetOk.calls k _ _ l0 false _ ?side1 ?side2 A2.out).mono ?_); (case side1 => repeat (first | exact HR0.out | (with_reducible refine Kd.C_alloc ?_ _) | (with_reducible refine Kd.C_drewN ?_ _) | (with_reducible refine Kd.C_drew ?_))); (case side2 => exact HC0.out); rintro e w19 ⟨rfl, hb⟩; have n0_ := aM (below_step (by repeat (first | (with_reducible first | exact HB.out | apply aW1 | apply aW2 | apply aW3) | exact HB.out)) hb); clear HB; have HB := n0_; clear n0_; (try clear hb); (try clear hb2); (try clear hk); (try clear hi)))
  repeat (go_quiet (first | (go_at_call 19; (with_reducible refine (spec_SetOk.calls k _ _ l0 false _ ?side1 ?side2 A2.out).mono ?_); (case side1 => repeat (first | exact HR0.out | (with_reducible refine Kd.C_alloc ?_ _) | (with_reducible refine Kd.C_drewN ?_ _) | (with_reducible refine Kd.C_drew ?_))); (case side2 => exact HC0.out); rintro e w19 ⟨rfl, hb⟩; have n0_ := aM (below_step (by repeat (first | (with_reducible first | exact HB.out | apply aW1 | apply aW2 | apply aW3) | exact HB.out)) hb); clear HB; have HB := n0_; clear n0_; (try clear hb); (try clear hb2); (try clear hk); (try clear hi))); try go_wp2_with (first | (go_at_call 19; (with_reducible refine (spec_SetOk.calls k _ _ l0 false _ ?side1 ?side2 A2.out).mono ?_); (case side1 => repeat (first | exact HR0.out | (with_reducible refine Kd.C_alloc ?_ _) | (with_reducible refine Kd.C_drewN ?_ _) | (with_reducible refine Kd.C_drew ?_))); (case side2 => exact HC0.out); rintro e w19 ⟨rfl, hb⟩; have n0_ := aM (below_step (by repeat (first | (with_reducible first | exact HB.out | apply aW1 | apply aW2 | apply aW3) | exact HB.out)) hb); clear HB; have HB := n0_; clear n0_; (try clear hb); (try clear hb2); (try clear hk); (try clear hi))))
  go_ret
  exact ⟨by first | rfl | (simp [errW_none, errW_some] <;> rfl) | (simp [*, errW_none, errW_some] <;> rfl), by repeat (first | (with_reducible first | exact HB.out | apply aW1 | apply aW2 | apply aW3) | exact HB.out)⟩

/-! ### spec_NumText: function 12 -/
def spec_NumText.l0 : Nat → Int → ByteArray → Int → Option (ByteArray)
 | 0, _, _, _ => none
 | k + 1, x0, x3, x4 => if x4 = 0 then (if x0 < 0 then (if 1 + x3.size ≤ 9223372036854775807 then (some ((⟨#[45]⟩ : ByteArray) ++ x3)) else (none)) else (some x3)) else (if (Int.tmod x4 10) < 0 then ((some (([(wrap64 (48 + (wrap64 (-(Int.tmod x4 10))))) % 256] : List Int) : List Int)).bind fun y125 => (if (strOfNums y125).size + x3.size ≤ 9223372036854775807 then (spec_NumText.l0 k x0 ((strOfNums y125) ++ x3) (wrap64 (Int.tdiv x4 10))) else (none))) else ((some (([(wrap64 (48 + (Int.tmod x4 10))) % 256] : List Int) : List Int)).bind fun y128 => (if (strOfNums y128).size + x3.size ≤ 9223372036854775807 then (spec_NumText.l0 k x0 ((strOfNums y128) ++ x3) (wrap64 (Int.tdiv x4 10))) else (none))))
def spec_NumText.f (k : Nat) (a0 : Int) : Option (ByteArray) := if a0 = 0 then (some (⟨#[48]⟩ : ByteArray)) else (spec_NumText.l0 k a0 (⟨#[]⟩ : ByteArray) a0)
theorem spec_NumText.mono_l : ∀ k, (∀ y0 y1 y2, LeO (spec_NumText.l0 k y0 y1 y2) (spec_NumText.l0 (k + 1) y0 y1 y2))
 | 0 => fun _ _ _ r h => by simp [spec_NumText.l0] at h
 | k + 1 => by
  have ih0 := spec_NumText.mono_l k
  ·intro y0 y1 y2
   unfold spec_NumText.l0
   repeat' first
   | (with_reducible exact ih0 _ _ _)
   | (with_reducible exact LeO.refl _)
   | (with_reducible exact LeO.none _)
   | (with_reducible refine LeO.ite ?_ ?_)
   | (with_reducible refine LeO.bind ?_ (fun _ => ?_))
   | exact ih0 _ _ _
   | exact LeO.none _
   | refine LeO.ite ?_ ?_
   | refine LeO.bind ?_ (fun _ => ?_)
theorem spec_NumText.mono : ∀ a0 k, LeO (spec_NumText.f k a0) (spec_NumText.f (k + 1) a0) := by
 intro a0 k
 have ih0 := spec_NumText.mono_l k
 unfold spec_NumText.f
 repeat' first
   | (with_reducible exact ih0 _ _ _)
   | (with_reducible exact LeO.refl _)
   | (with_reducible exact LeO.none _)
   | (with_reducible refine LeO.ite ?_ ?_)
   | (with_reducible refine LeO.bind ?_ (fun _ => ?_))
   | exact ih0 _ _ _
   | exact LeO.none _
   | refine LeO.ite ?_ ?_
   | refine LeO.bind ?_ (fun _ => ?_)
set_option maxHeartbeats 8000000 in
set_option maxRecDepth 100000 in
theorem spec_NumText.calls (k : Nat) (a0 : Int) (r : ByteArray) (w : World) (h : spec_NumText.f k a0 = some r) :
  Calls Tryd.prog 12 #[.int .i64 a0] w fun e w' => e = .returned (.string r) ∧ Below w.heap.size w w' := by
 have HB := aM (Below.refl w.heap.size w)
 have H : (if a0 = 0 then (some (⟨#[48]⟩ : ByteArray)) else (spec_NumText.l0 k a0 (⟨#[]⟩ : ByteArray) a0)) = some r := h
 clear h
 by_cases c2 : a0 = 0
 ·rw [if_pos c2] at H
  have c2b0 : (a0 == 0) = true := beq_iff_eq.mpr c2
  have c2b1 : (a0 != 0) = false := bne_eq_false_iff_eq.mpr c2
  clear c2
  obtain rfl := Option.some.inj H
  go_enter Tryd.func12, Tryd.ntmps12
  go_wp2
  go_ret
  exact ⟨by first | rfl | (simp [errW_none, errW_some] <;> rfl) | (simp [*, errW_none, errW_some] <;> rfl), by repeat (first | (with_reducible first | exact HB.out | apply aW1 | apply aW2 | apply aW3) | exact HB.out)⟩
 ·rw [if_neg c2] at H
  have c2b0 : (a0 == 0) = false := beq_eq_false_iff_ne.mpr c2
  have c2b1 : (a0 != 0) = true := bne_iff_ne.mpr c2
  have H' := aM H
  clear H
  go_enter Tryd.func12, Tryd.ntmps12
  go_wp2
  go_loopg [3, 4] k (fun kq v3 v4 w' => ∃ (x3_1 : ByteArray) (x4_1 : Int), v3 = .string x3_1 ∧ v4 = .int .i64 x4_1 ∧ Aside0 (spec_NumText.l0 kq a0 x3_1 x4_1 = some r) ∧ Aside0 (kq ≤ k) ∧ Aside0 (Below w.heap.size w w'))
  case atStart => exact ⟨((⟨#[]⟩ : ByteArray)), (a0), (by first | rfl | (simp; done) | (simp [*]; done)), (by first | rfl | (simp; done) | (simp [*]; done)), H', ⟨Nat.le_refl _⟩, ⟨by repeat (first | (with_reducible first | exact HB.out | apply aW1 | apply aW2 | apply aW3) | exact HB.out)⟩⟩
  case round =>
   clear H'
   try clear c1
   try clear c2
   try clear c2b0
   try clear c2b1
   try clear p2
   obtain ⟨x3_1, x4_1, rfl, rfl, HA, HK1, HB⟩ := hrel
   cases gk with
   | zero => exact absurd HA.out (by simp [spec_NumText.l0])
   | succ k1 =>
    have H := HA.out
    clear HA
    simp only [spec_NumText.l0] at H
    by_cases c3 : x4_1 = 0
    ·rw [if_pos c3] at H
     have c3b0 : (x4_1 == 0) = true := beq_iff_eq.mpr c3
     have c3b1 : (x4_1 != 0) = false := bne_eq_false_iff_eq.mpr c3
     clear c3
     by_cases c4 : a0 < 0
     ·rw [if_pos c4] at H; have c4b0 : decide (a0 < 0) = true := decide_eq_true c4; clear c4
      by_cases c5 : 1 + x3_1.size ≤ 9223372036854775807
      ·rw [if_pos c5] at H
       have c5b0 := eq_true c5
       have c5b1 : decide (1 + x3_1.size ≤ 9223372036854775807) = true := decide_eq_true c5
       try have c5b2 : (9223372036854775807 < 1 + x3_1.size) = False := eq_false (Nat.not_lt.2 c5)
       obtain rfl := Option.some.inj H
       go_wp2
       go_ret
       exact ⟨by first | rfl | (simp [errW_none, errW_some] <;> rfl) | (simp [*, errW_none, errW_some] <;> rfl), by repeat (first | (with_reducible first | exact HB.out | apply aW1 | apply aW2 | apply aW3) | exact HB.out)⟩
      ·rw [if_neg c5] at H
       exact absurd H (by simp)
     ·rw [if_neg c4] at H; have c4b0 : decide (a0 < 0) = false := decide_eq_false c4; clear c4
      obtain rfl := Option.some.inj H
      go_wp2
      go_ret
      exact ⟨by first | rfl | (simp [errW_none, errW_some] <;> rfl) | (simp [*, errW_none, errW_some] <;> rfl), by repeat (first | (with_reducible first | exact HB.out | apply aW1 | apply aW2 | apply aW3) | exact HB.out)⟩
    ·rw [if_neg c3] at H
     have c3b0 : (x4_1 == 0) = false := beq_eq_false_iff_ne.mpr c3
     have c3b1 : (x4_1 != 0) = true := bne_iff_ne.mpr c3
     by_cases c6 : (Int.tmod x4_1 10) < 0
     ·rw [if_pos c6] at H; have c6b0 : decide ((Int.tmod x4_1 10) < 0) = true := decide_eq_true c6; clear c6
      obtain ⟨y125, hy125⟩ : ∃ y_ : List Int, y_ = (([(wrap64 (48 + (wrap64 (-(Int.tmod x4_1 10))))) % 256] : List Int)) := ⟨_, rfl⟩
      replace H : (if (strOfNums y125).size + x3_1.size ≤ 9223372036854775807 then (spec_NumText.l0 k1 a0 ((strOfNums y125) ++ x3_1) (wrap64 (Int.tdiv x4_1 10))) else (none)) = some r := by first | (rw [hy125]; with_reducible exact H) | (have H2_ := (Option.bind_some _ _).symm.trans H; rw [hy125]; with_reducible exact H2_) | (have H2_ := (Option.bind_some _ _).symm.trans H; with_reducible exact H2_) | with_reducible exact H | (rw [hy125]; exact H) | exact H
      have Ny125 := aM hy125
      clear hy125
      by_cases c7 : (strOfNums y125).size + x3_1.size ≤ 9223372036854775807
      ·rw [if_pos c7] at H
       have c7b0 := eq_true c7
       have c7b1 : decide ((strOfNums y125).size + x3_1.size ≤ 9223372036854775807) = true := decide_eq_true c7
       try have c7b2 : (9223372036854775807 < (strOfNums y125).size + x3_1.size) = False := eq_false (Nat.not_lt.2 c7)
       have H' := aM H
       clear H
       go_wp2_with (first | ((with_reducible refine gate_dst (N := 22) rfl ?_); refine Kd.R_lit (Kd.int .u8) _ 5 ?hg (N := 22) ?hd (xs := ([(wrap64 (48 + (wrap64 (-(Int.tmod x4_1 10))))) % 256] : List Int)) (inner := [.int .u8 ((wrap64 (48 + (wrap64 (-(Int.tmod x4_1 10))))) % 256)]) (ok := fun _ => True) (okp := fun _ => True) ?hr ?hp (fun _ hk => hk) trivial (Below.refl _ _) (Nat.le_refl _) (by simp) ?_; (case hd => rfl); (case hg => rfl); (case hr => first | (go_simp; done) | (go_simp; rfl)); (case hp => exact (Reps.one (show Kd.M (Kd.int .u8) _ _ _ ((wrap64 (48 + (wrap64 (-(Int.tmod x4_1 10))))) % 256) [.int .u8 ((wrap64 (48 + (wrap64 (-(Int.tmod x4_1 10))))) % 256)] from rfl) (Reps.none _ _))); intro v126 w8 ho9 hb hg_ hnew_; clear hg_ hnew_; (first | rw [← Ny125.out] at ho9 | (simp only [Int.reduceToNat] at ho9; rw [← Ny125.out] at ho9)); have n0_ := aM (Kd.R_lower ho9 (below_size (by repeat (first | (with_reducible first | exact HB.out | apply aW1 | apply aW2 | apply aW3) | exact HB.out)))); have n1_ := aM (below_step (by repeat (first | (with_reducible first | exact HB.out | apply aW1 | apply aW2 | apply aW3) | exact HB.out)) hb); clear HB; have HO127 := n0_; have HB := n1_; clear n0_ n1_ hb ho9; have hcv10 := own_string (P := Tryd.prog) Tryd.underlying46 Tryd.underlying5 Tryd.underlying9 (Kd.own_of_R HO127.out)))
       go_roundg k1
       case measure => have := HK1.out; omega
       case rel => exact ⟨((strOfNums y125) ++ x3_1), (wrap64 (Int.tdiv x4_1 10)), (by first | rfl | (simp; done) | (simp [*]; done)), (by first | rfl | (simp; done) | (simp [*]; done)), H', ⟨by have := HK1.out; omega⟩, ⟨by repeat (first | (with_reducible first | exact HB.out | apply aW1 | apply aW2 | apply aW3) | exact HB.out)⟩⟩
      ·rw [if_neg c7] at H
       exact absurd H (by simp)
     ·rw [if_neg c6] at H; have c6b0 : decide ((Int.tmod x4_1 10) < 0) = false := decide_eq_false c6; clear c6
      obtain ⟨y128, hy128⟩ : ∃ y_ : List Int, y_ = (([(wrap64 (48 + (Int.tmod x4_1 10))) % 256] : List Int)) := ⟨_, rfl⟩
      replace H : (if (strOfNums y128).size + x3_1.size ≤ 9223372036854775807 then (spec_NumText.l0 k1 a0 ((strOfNums y128) ++ x3_1) (wrap64 (Int.tdiv x4_1 10))) else (none)) = some r := by first | (rw [hy128]; with_reducible exact H) | (have H2_ := (Option.bind_some _ _).symm.trans H; rw [hy128]; with_reducible exact H2_) | (have H2_ := (Option.bind_some _ _).symm.trans H; with_reducible exact H2_) | with_reducible exact H | (rw [hy128]; exact H) | exact H
      have Ny128 := aM hy128
      clear hy128
      by_cases c11 : (strOfNums y128).size + x3_1.size ≤ 9223372036854775807
      ·rw [if_pos c11] at H
       have c11b0 := eq_true c11
       have c11b1 : decide ((strOfNums y128).size + x3_1.size ≤ 9223372036854775807) = true := decide_eq_true c11
       try have c11b2 : (9223372036854775807 < (strOfNums y128).size + x3_1.size) = False := eq_false (Nat.not_lt.2 c11)
       have H' := aM H
       clear H
       go_wp2_with (first | ((with_reducible refine gate_dst (N := 22) rfl ?_); refine Kd.R_lit (Kd.int .u8) _ 5 ?hg (N := 22) ?hd (xs := ([(wrap64 (48 + (Int.tmod x4_1 10))) % 256] : List Int)) (inner := [.int .u8 ((wrap64 (48 + (Int.tmod x4_1 10))) % 256)]) (ok := fun _ => True) (okp := fun _ => True) ?hr ?hp (fun _ hk => hk) trivial (Below.refl _ _) (Nat.le_refl _) (by simp) ?_; (case hd => rfl); (case hg => rfl); (case hr => first | (go_simp; done) | (go_simp; rfl)); (case hp => exact (Reps.one (show Kd.M (Kd.int .u8) _ _ _ ((wrap64 (48 + (Int.tmod x4_1 10))) % 256) [.int .u8 ((wrap64 (48 + (Int.tmod x4_1 10))) % 256)] from rfl) (Reps.none _ _))); intro v129 w12 ho13 hb hg_ hnew_; clear hg_ hnew_; (first | rw [← Ny128.out] at ho13 | (simp only [Int.reduceToNat] at ho13; rw [← Ny128.out] at ho13)); have n0_ := aM (Kd.R_lower ho13 (below_size (by repeat (first | (with_reducible first | exact HB.out | apply aW1 | apply aW2 | apply aW3) | exact HB.out)))); have n1_ := aM (below_step (by repeat (first | (with_reducible first | exact HB.out | apply aW1 | apply aW2 | apply aW3) | exact HB.out)) hb); clear HB; have HO130 := n0_; have HB := n1_; clear n0_ n1_ hb ho13; have hcv14 := own_string (P := Tryd.prog) Tryd.underlying46 Tryd.underlying5 Tryd.underlying9 (Kd.own_of_R HO130.out)))
       go_roundg k1
       case measure => have := HK1.out; omega
       case rel => exact ⟨((strOfNums y128) ++ x3_1), (wrap64 (Int.tdiv x4_1 10)), (by first | rfl | (simp; done) | (simp [*]; done)), (by first | rfl | (simp; done) | (simp [*]; done)), H', ⟨by have := HK1.out; omega⟩, ⟨by repeat (first | (with_reducible first | exact HB.out | apply aW1 | apply aW2 | apply aW3) | exact HB.out)⟩⟩
      ·rw [if_neg c11] at H
       exact absurd H (by simp)

/-! ### spec_AlarmText: function 5 -/
def spec_AlarmText.f (k : Nat) (l0_0 : List (S45)) (a0_1 : Int) (a0_2 : Int) (a0_3 : ByteArray) : Option (ByteArray) := (spec_AlarmOk.f k l0_0 a0_1 a0_2 a0_3).bind fun t132 => (if t132 = true then ((spec_SetText.f k l0_0).bind fun t133 => (if t133.size + 1 ≤ 9223372036854775807 then ((spec_NumText.f k a0_1).bind fun t134 => (if (t133 ++ (⟨#[32]⟩ : ByteArray)).size + t134.size ≤ 9223372036854775807 then (if ((t133 ++ (⟨#[32]⟩ : ByteArray)) ++ t134).size + 1 ≤ 9223372036854775807 then ((spec_NumText.f k a0_2).bind fun t135 => (if (((t133 ++ (⟨#[32]⟩ : ByteArray)) ++ t134) ++ (⟨#[45]⟩ : ByteArray)).size + t135.size ≤ 9223372036854775807 then (if ((((t133 ++ (⟨#[32]⟩ : ByteArray)) ++ t134) ++ (⟨#[45]⟩ : ByteArray)) ++ t135).size + 2 ≤ 9223372036854775807 then (if (((((t133 ++ (⟨#[32]⟩ : ByteArray)) ++ t134) ++ (⟨#[45]⟩ : ByteArray)) ++ t135) ++ (⟨#[32, 34]⟩ : ByteArray)).size + a0_3.size ≤ 9223372036854775807 then (if ((((((t133 ++ (⟨#[32]⟩ : ByteArray)) ++ t134) ++ (⟨#[45]⟩ : ByteArray)) ++ t135) ++ (⟨#[32, 34]⟩ : ByteArray)) ++ a0_3).size + 1 ≤ 9223372036854775807 then (some (((((((t133 ++ (⟨#[32]⟩ : ByteArray)) ++ t134) ++ (⟨#[45]⟩ : ByteArray)) ++ t135) ++ (⟨#[32, 34]⟩ : ByteArray)) ++ a0_3) ++ (⟨#[34]⟩ : ByteArray))) else (none)) else (none)) else (none)) else (none))) else (none)) else (none))) else (none))) else (some (⟨#[]⟩ : ByteArray)))
theorem spec_AlarmText.mono : ∀ a0 a1 a2 a3 k, LeO (spec_AlarmText.f k a0 a1 a2 a3) (spec_AlarmText.f (k + 1) a0 a1 a2 a3) := by
 intro a0 a1 a2 a3 k
 unfold spec_AlarmText.f
 repeat' first
   | (with_reducible exact spec_AlarmOk.mono _ _ _ _ _)
   | (with_reducible exact spec_NumText.mono _ _)
   | (with_reducible exact spec_SetText.mono _ _)
   | (with_reducible exact LeO.refl _)
   | (with_reducible exact LeO.none _)
   | (with_reducible refine LeO.ite ?_ ?_)
   | (with_reducible refine LeO.bind ?_ (fun _ => ?_))
   | exact spec_AlarmOk.mono _ _ _ _ _
   | exact spec_NumText.mono _ _
   | exact spec_SetText.mono _ _
   | exact LeO.none _
   | refine LeO.ite ?_ ?_
   | refine LeO.bind ?_ (fun _ => ?_)
def spec_AlarmText.T3 : Bool × List (List Nat × List Nat) := (true, [([], []), ([0], [0]), ([1], [1]), ([2], [2]), ([], []), ([4], [4]), ([5, 2], [5]), ([3, 6], [3, 6]), ([7], [7]), ([], []), ([9], [9]), ([10, 6], [10]), ([8, 11], [8, 11]), ([12], [12]), ([], []), ([14], [14]), ([13, 15], [13, 15]), ([16], [16]), ([17, 11, 0, 1, 2, 3, 4, 5, 6, 7, 8, 9, 10, 11, 12, 13, 14, 15, 16, 17], [17])])
def spec_AlarmText.B3 : List Nat := [0, 1, 3, 7, 0, 16, 55, 127, 255, 0, 512, 1655, 4095, 8191, 0, 16384, 65535, 131071, 262143]
theorem spec_AlarmText.tab3 : rtab .any (opsOf Tryd.f5 3) = spec_AlarmText.T3 := by kernel_rfl
theorem spec_AlarmText.bits3 : waitsOk spec_AlarmText.T3.2 spec_AlarmText.B3 = true := by kernel_rfl
set_option maxHeartbeats 8000000 in
set_option maxRecDepth 100000 in
theorem spec_AlarmText.calls (k : Nat) (A0_0 : Option Addr) (c0_0 : Nat) (l0_0 : List (S45)) (a0_1 : Int) (a0_2 : Int) (a0_3 : ByteArray) (r : ByteArray) (w : World) (hr0_0 : Kd.C k45 w A0_0 l0_0.length l0_0) (hc0_0 : l0_0.length ≤ c0_0) (h : spec_AlarmText.f k l0_0 a0_1 a0_2 a0_3 = some r) :
  Calls Tryd.prog 5 #[.agg #[.slice A0_0 l0_0.length c0_0, .int .i64 a0_1, .int .i64 a0_2, .string a0_3]] w fun e w' => e = .returned (.string r) ∧ Below w.heap.size w w' := by
 have hu29 := Tryd.underlying29
 have HR0_0 := aM hr0_0
 have HC0_0 := aM hc0_0
 clear hr0_0 hc0_0
 have HB := aM (Below.refl w.heap.size w)
 have H : ((spec_AlarmOk.f k l0_0 a0_1 a0_2 a0_3).bind fun t132 => (if t132 = true then ((spec_SetText.f k l0_0).bind fun t133 => (if t133.size + 1 ≤ 9223372036854775807 then ((spec_NumText.f k a0_1).bind fun t134 => (if (t133 ++ (⟨#[32]⟩ : ByteArray)).size + t134.size ≤ 9223372036854775807 then (if ((t133 ++ (⟨#[32]⟩ : ByteArray)) ++ t134).size + 1 ≤ 9223372036854775807 then ((spec_NumText.f k a0_2).bind fun t135 => (if (((t133 ++ (⟨#[32]⟩ : ByteArray)) ++ t134) ++ (⟨#[45]⟩ : ByteArray)).size + t135.size ≤ 9223372036854775807 then (if ((((t133 ++ (⟨#[32]⟩ : ByteArray)) ++ t134) ++ (⟨#[45]⟩ : ByteArray)) ++ t135).size + 2 ≤ 9223372036854775807 then (if (((((t133 ++ (⟨#[32]⟩ : ByteArray)) ++ t134) ++ (⟨#[45]⟩ : ByteArray)) ++ t135) ++ (⟨#[32, 34]⟩ : ByteArray)).size + a0_3.size ≤ 9223372036854775807 then (if ((((((t133 ++ (⟨#[32]⟩ : ByteArray)) ++ t134) ++ (⟨#[45]⟩ : ByteArray)) ++ t135) ++ (⟨#[32, 34]⟩ : ByteArray)) ++ a0_3).size + 1 ≤ 9223372036854775807 then (some (((((((t133 ++ (⟨#[32]⟩ : ByteArray)) ++ t134) ++ (⟨#[45]⟩ : ByteArray)) ++ t135) ++ (⟨#[32, 34]⟩ : ByteArray)) ++ a0_3) ++ (⟨#[34]⟩ : ByteArray))) else (none)) else (none)) else (none)) else (none))) else (none)) else (none))) else (none))) else (some (⟨#[]⟩ : ByteArray)))) = some r := h
 clear h; replace H := Option.bind_eq_some_iff.mp H; obtain ⟨t132, A20, H⟩ := H; try dsimp only at H
 have A2 := aM A20
 clear A20
 by_cases c3 : t132 = true
 ·subst c3
  have H1 : ((spec_SetText.f k l0_0).bind fun t133 => (if t133.size + 1 ≤ 9223372036854775807 then ((spec_NumText.f k a0_1).bind fun t134 => (if (t133 ++ (⟨#[32]⟩ : ByteArray)).size + t134.size ≤ 9223372036854775807 then (if ((t133 ++ (⟨#[32]⟩ : ByteArray)) ++ t134).size + 1 ≤ 9223372036854775807 then ((spec_NumText.f k a0_2).bind fun t135 => (if (((t133 ++ (⟨#[32]⟩ : ByteArray)) ++ t134) ++ (⟨#[45]⟩ : ByteArray)).size + t135.size ≤ 9223372036854775807 then (if ((((t133 ++ (⟨#[32]⟩ : ByteArray)) ++ t134) ++ (⟨#[45]⟩ : ByteArray)) ++ t135).size + 2 ≤ 9223372036854775807 then (if (((((t133 ++ (⟨#[32]⟩ : ByteArray)) ++ t134) ++ (⟨#[45]⟩ : ByteArray)) ++ t135) ++ (⟨#[32, 34]⟩ : ByteArray)).size + a0_3.size ≤ 9223372036854775807 then (if ((((((t133 ++ (⟨#[32]⟩ : ByteArray)) ++ t134) ++ (⟨#[45]⟩ : ByteArray)) ++ t135) ++ (⟨#[32, 34]⟩ : ByteArray)) ++ a0_3).size + 1 ≤ 9223372036854775807 then (some (((((((t133 ++ (⟨#[32]⟩ : ByteArray)) ++ t134) ++ (⟨#[45]⟩ : ByteArray)) ++ t135) ++ (⟨#[32, 34]⟩ : ByteArray)) ++ a0_3) ++ (⟨#[34]⟩ : ByteArray))) else (none)) else (none)) else (none)) else (none))) else (none)) else (none))) else (none))) = some r := by rw [if_pos rfl] at H; exact H
  clear H
  have H := H1
  clear H1; replace H := Option.bind_eq_some_iff.mp H; obtain ⟨t133, A40, H⟩ := H; try dsimp only at H
  have A4 := aM A40
  clear A40
  by_cases c5 : t133.size + 1 ≤ 9223372036854775807
  ·rw [if_pos c5] at H
   have c5b0 := eq_true c5
   have c5b1 : decide (t133.size + 1 ≤ 9223372036854775807) = true := decide_eq_true c5
   try have c5b2 : (9223372036854775807 < t133.size + 1) = False := eq_false (Nat.not_lt.2 c5)
   replace H := Option.bind_eq_some_iff.mp H; obtain ⟨t134, A60, H⟩ := H; try dsimp only at H
   have A6 := aM A60
   clear A60
   by_cases c7 : (t133 ++ (⟨#[32]⟩ : ByteArray)).size + t134.size ≤ 9223372036854775807
   ·rw [if_pos c7] at H
    have c7b0 := eq_true c7
    have c7b1 : decide ((t133 ++ (⟨#[32]⟩ : ByteArray)).size + t134.size ≤ 9223372036854775807) = true := decide_eq_true c7
    try have c7b2 : (9223372036854775807 < (t133 ++ (⟨#[32]⟩ : ByteArray)).size + t134.size) = False := eq_false (Nat.not_lt.2 c7)
    try (have c7b3 := c7b2; simp only [ByteArray.size_append', ByteArray.size_mk', List.size_toArray, List.length_cons, List.length_nil, Nat.reduceAdd, Nat.zero_add] at c7b3)
    by_cases c8 : ((t133 ++ (⟨#[32]⟩ : ByteArray)) ++ t134).size + 1 ≤ 9223372036854775807
    ·rw [if_pos c8] at H
     have c8b0 := eq_true c8
     have c8b1 : decide (((t133 ++ (⟨#[32]⟩ : ByteArray)) ++ t134).size + 1 ≤ 9223372036854775807) = true := decide_eq_true c8
     try have c8b2 : (9223372036854775807 < ((t133 ++ (⟨#[32]⟩ : ByteArray)) ++ t134).size + 1) = False := eq_false (Nat.not_lt.2 c8)
     try (have c8b3 := c8b2; simp only [ByteArray.size_append', ByteArray.size_mk', List.size_toArray, List.length_cons, List.length_nil, Nat.reduceAdd, Nat.zero_add] at c8b3)
     replace H := Option.bind_eq_some_iff.mp H; obtain ⟨t135, A90, H⟩ := H; try dsimp only at H
     have A9 := aM A90
     clear A90
     by_cases c10 : (((t133 ++ (⟨#[32]⟩ : ByteArray)) ++ t134) ++ (⟨#[45]⟩ : ByteArray)).size + t135.size ≤ 9223372036854775807
     ·rw [if_pos c10] at H
      have c10b0 := eq_true c10
      have c10b1 : decide ((((t133 ++ (⟨#[32]⟩ : ByteArray)) ++ t134) ++ (⟨#[45]⟩ : ByteArray)).size + t135.size ≤ 9223372036854775807) = true := decide_eq_true c10
      try have c10b2 : (9223372036854775807 < (((t133 ++ (⟨#[32]⟩ : ByteArray)) ++ t134) ++ (⟨#[45]⟩ : ByteArray)).size + t135.size) = False := eq_false (Nat.not_lt.2 c10)
      try (have c10b3 := c10b2; simp only [ByteArray.size_append', ByteArray.size_mk', List.size_toArray, List.length_cons, List.length_nil, Nat.reduceAdd, Nat.zero_add] at c10b3)
      by_cases c11 : ((((t133 ++ (⟨#[32]⟩ : ByteArray)) ++ t134) ++ (⟨#[45]⟩ : ByteArray)) ++ t135).size + 2 ≤ 9223372036854775807
      ·rw [if_pos c11] at H
       have c11b0 := eq_true c11
       have c11b1 : decide (((((t133 ++ (⟨#[32]⟩ : ByteArray)) ++ t134) ++ (⟨#[45]⟩ : ByteArray)) ++ t135).size + 2 ≤ 9223372036854775807) = true := decide_eq_true c11
       try have c11b2 : (9223372036854775807 < ((((t133 ++ (⟨#[32]⟩ : ByteArray)) ++ t134) ++ (⟨#[45]⟩ : ByteArray)) ++ t135).size + 2) = False := eq_false (Nat.not_lt.2 c11)
       try (have c11b3 := c11b2; simp only [ByteArray.size_append', ByteArray.size_mk', List.size_toArray, List.length_cons, List.length_nil, Nat.reduceAdd, Nat.zero_add] at c11b3)
       by_cases c12 : (((((t133 ++ (⟨#[32]⟩ : ByteArray)) ++ t134) ++ (⟨#[45]⟩ : ByteArray)) ++ t135) ++ (⟨#[32, 34]⟩ : ByteArray)).size + a0_3.size ≤ 9223372036854775807
       ·rw [if_pos c12] at H
        have c12b0 := eq_true c12
        have c12b1 : decide ((((((t133 ++ (⟨#[32]⟩ : ByteArray)) ++ t134) ++ (⟨#[45]⟩ : ByteArray)) ++ t135) ++ (⟨#[32, 34]⟩ : ByteArray)).size + a0_3.size ≤ 9223372036854775807) = true := decide_eq_true c12
        try have c12b2 : (9223372036854775807 < (((((t133 ++ (⟨#[32]⟩ : ByteArray)) ++ t134) ++ (⟨#[45]⟩ : ByteArray)) ++ t135) ++ (⟨#[32, 34]⟩ : ByteArray)).size + a0_3.size) = False := eq_false (Nat.not_lt.2 c12)
        try (have c12b3 := c12b2; simp only [ByteArray.size_append', ByteArray.size_mk', List.size_toArray, List.length_cons, List.length_nil, Nat.reduceAdd, Nat.zero_add] at c12b3)
        by_cases c13 : ((((((t133 ++ (⟨#[32]⟩ : ByteArray)) ++ t134) ++ (⟨#[45]⟩ : ByteArray)) ++ t135) ++ (⟨#[32, 34]⟩ : ByteArray)) ++ a0_3).size + 1 ≤ 9223372036854775807
        ·rw [if_pos c13] at H
         have c13b0 := eq_true c13
         have c13b1 : decide (((((((t133 ++ (⟨#[32]⟩ : ByteArray)) ++ t134) ++ (⟨#[45]⟩ : ByteArray)) ++ t135) ++ (⟨#[32, 34]⟩ : ByteArray)) ++ a0_3).size + 1 ≤ 9223372036854775807) = true := decide_eq_true c13
         try have c13b2 : (9223372036854775807 < ((((((t133 ++ (⟨#[32]⟩ : ByteArray)) ++ t134) ++ (⟨#[45]⟩ : ByteArray)) ++ t135) ++ (⟨#[32, 34]⟩ : ByteArray)) ++ a0_3).size + 1) = False := eq_false (Nat.not_lt.2 c13)
         try (have c13b3 := c13b2; simp only [ByteArray.size_append', ByteArray.size_mk', List.size_toArray, List.length_cons, List.length_nil, Nat.reduceAdd, Nat.zero_add] at c13b3)
         obtain rfl := Option.some.inj H
         go_enter Tryd.func5, Tryd.ntmps5
         try go_wp2_with (first | ((with_reducible refine gate_dst (N := 1) rfl ?_); refine box_event ?hg (N := 1) ?hd (cs := #[.slice A0_0 l0_0.length c0_0, .int .i64 a0_1, .int .i64 a0_2, .string a0_3]) (t := 29) ?hr ?_; (case hd => rfl); (case hg => rfl); (case hr => first | (go_simp; done) | (go_simp; rfl)); intro gb131 hg w14 hbox hb; have n0_ := aM (below_step (by repeat (first | (with_reducible first | exact HB.out | apply aW1 | apply aW2 | apply aW3) | exact HB.out)) hb); have n1_ := aM (hbox); have n2_ := aM ((by rw [hg]; exact (below_size (by repeat (first | (with_reducible first | exact HB.out | apply aW1 | apply aW2 | apply aW3) | exact HB.out))) : w.heap.size ≤ gb131)); have n3_ := aM ((by rw [hg]; exact (below_size (by repeat (first | (with_reducible first | exact HB.out | apply aW1 | apply aW2 | apply aW3) | exact HB.out))) : w.heap.size ≤ gb131)); clear HB; have HB := n0_; have BK131 := n1_; have GW131 := n2_; have GE131 := n3_; clear n0_ n1_ n2_ n3_ hb hbox hg; have hcz15_0 := cz4_0 BK131; have hcz15_1 := cz4_1 BK131; have hcz15_2 := cz4_2 BK131; have hcz15_3 := cz4_3 BK131; have hfz15_0 := blk_frozen BK131.out 0; have hfz15_1 := blk_frozen BK131.out 1; have hfz15_2 := blk_frozen BK131.out 2; have hfz15_3 := blk_frozen BK131.out 3) | ((with_reducible refine gate_callee (f := 10) rfl ?_); refine goesL_ (some 4) rfl rfl Tryd.func10 (by kernel_rfl) rfl #[.agg #[.slice A0_0 l0_0.length c0_0, .int .i64 a0_1, .int .i64 a0_2, .string a0_3]] rfl (by (try simp only [List.map_toArray, List.map_cons, List.map_nil]); first | done | rfl | (simp only [List.length_drop, List.length_take]; rfl)) ?_; (with_reducible refine (spec_AlarmOk.calls k _ _ l0_0 a0_1 a0_2 a0_3 true _ ?side1 ?side2 A2.out).mono ?_); (case side1 => repeat (first | exact (Kd.C_below HR0_0.out HB.out) | (with_reducible refine Kd.C_alloc ?_ _) | (with_reducible refine Kd.C_drewN ?_ _) | (with_reducible refine Kd.C_drew ?_))); (case side2 => exact HC0_0.out); rintro e w16 ⟨rfl, hb⟩; refine ⟨_, rfl, ?_⟩; have n0_ := bb BK131 hb; have n1_ := aM (below_step (by repeat (first | (with_reducible first | exact HB.out | apply aW1 | apply aW2 | apply aW3 | refine below_set ?_ GE131.out) | exact HB.out)) hb); clear BK131 HB; have BK131 := n0_; have HB := n1_; clear n0_ n1_; (try clear hb); (try clear hb2); (try clear hk); (try clear hi)))
         have n0_ := aM (blk_drew BK131.out)
         have n1_ := aM (below_drew1 HB.out)
         clear BK131 HB; have BK131 := n0_; have HB := n1_; clear n0_ n1_
         refine start_ (n := 19) (S := fun w' => w'.cell? ⟨gb131, 0, none⟩ = some (.slice A0_0 l0_0.length c0_0) ∧ w'.cell? ⟨gb131, 1, none⟩ = some (.int .i64 a0_1) ∧ w'.cell? ⟨gb131, 2, none⟩ = some (.int .i64 a0_2) ∧ w'.cell? ⟨gb131, 3, none⟩ = some (.string a0_3)) (ds := []) #[false, false, false, false, false, false, false, false, false, false, false, false, false, false, false, false, false, false, false] (by kernel_rfl) rfl rfl ⟨(blk_cell BK131.out 0).trans rfl, (blk_cell BK131.out 1).trans rfl, (blk_cell BK131.out 2).trans rfl, (blk_cell BK131.out 3).trans rfl⟩ (fun hHeld => ?_); refine with_tabW spec_AlarmText.tab3 spec_AlarmText.bits3 (fun HT_ HW_ => ?_)
         generalize w16.drew = w17 at BK131 HB hHeld ⊢
         refine pure_ (i := 0) (N := some 6) (v := ?_) (a' := ?_) #[true, false, false, false, false, false, false, false, false, false, false, false, false, false, false, false, false, false, false] rfl rfl (any_of HT_.out (by kernel_rfl)) (fun _ _ _ h => h) (Or.inl ⟨by rfl, ?_⟩) ?_ ?_
         rotate_left
         ·intro w'
          go_simp
          with_reducible rfl
         rotate_left
         ·simp only [Act.put, List.setIfInBounds_toArray, List.set_cons_zero, List.set_cons_succ, i64_w, i32_w]
          rfl
         refine pure_ (i := 4) (N := some 10) (v := ?_) (a' := ?_) #[true, false, false, false, true, false, false, false, false, false, false, false, false, false, false, false, false, false, false] rfl rfl (any_of HT_.out (by kernel_rfl)) (fun _ _ _ h => h) (Or.inl ⟨by rfl, ?_⟩) ?_ ?_
         rotate_left
         ·intro w'
          go_simp
          with_reducible rfl
         rotate_left
         ·simp only [Act.put, List.setIfInBounds_toArray, List.set_cons_zero, List.set_cons_succ, i64_w, i32_w]
          rfl
         refine pure_ (i := 9) (N := some 15) (v := ?_) (a' := ?_) #[true, false, false, false, true, false, false, false, false, true, false, false, false, false, false, false, false, false, false] rfl rfl (any_of HT_.out (by kernel_rfl)) (fun _ _ _ h => h) (Or.inl ⟨by rfl, ?_⟩) ?_ ?_
         rotate_left
         ·intro w'
          go_simp
          with_reducible rfl
         rotate_left
         ·simp only [Act.put, List.setIfInBounds_toArray, List.set_cons_zero, List.set_cons_succ, i64_w, i32_w]
          rfl
         refine pure_ (i := 14) (N := some 20) (v := ?_) (a' := ?_) #[true, false, false, false, true, false, false, false, false, true, false, false, false, false, true, false, false, false, false] rfl rfl (any_of HT_.out (by kernel_rfl)) (fun _ _ _ h => h) (Or.inl ⟨by rfl, ?_⟩) ?_ ?_
         rotate_left
         ·intro w'
          go_simp
          with_reducible rfl
         rotate_left
         ·simp only [Act.put, List.setIfInBounds_toArray, List.set_cons_zero, List.set_cons_succ, i64_w, i32_w]
          rfl
         refine take_ (i := 1) (N := some 7) (v := ?_) (a' := ?_) #[true, true, false, false, true, false, false, false, false, true, false, false, false, false, true, false, false, false, false] rfl rfl (take_ofW HT_.out HW_.out (by kernel_rfl)) (fun _ _ _ h => h) (Or.inl ⟨by rfl, ?_⟩) hHeld ?_ ?_
         rotate_left
         ·rintro w' ⟨s0, s1, s2, s3⟩
          go_simp
          with_reducible rfl
         rotate_left
         ·simp only [Act.put, List.setIfInBounds_toArray, List.set_cons_zero, List.set_cons_succ, i64_w, i32_w]
          rfl
         refine take_ (i := 5) (N := some 11) (v := ?_) (a' := ?_) #[true, true, false, false, true, true, false, false, false, true, false, false, false, false, true, false, false, false, false] rfl rfl (take_ofW HT_.out HW_.out (by kernel_rfl)) (fun _ _ _ h => h) (Or.inl ⟨by rfl, ?_⟩) hHeld ?_ ?_
         rotate_left
         ·rintro w' ⟨s0, s1, s2, s3⟩
          go_simp
          with_reducible rfl
         rotate_left
         ·simp only [Act.put, List.setIfInBounds_toArray, List.set_cons_zero, List.set_cons_succ, i64_w, i32_w]
          rfl
         refine take_ (i := 10) (N := some 16) (v := ?_) (a' := ?_) #[true, true, false, false, true, true, false, false, false, true, true, false, false, false, true, false, false, false, false] rfl rfl (take_ofW HT_.out HW_.out (by kernel_rfl)) (fun _ _ _ h => h) (Or.inl ⟨by rfl, ?_⟩) hHeld ?_ ?_
         rotate_left
         ·rintro w' ⟨s0, s1, s2, s3⟩
          go_simp
          with_reducible rfl
         rotate_left
         ·simp only [Act.put, List.setIfInBounds_toArray, List.set_cons_zero, List.set_cons_succ, i64_w, i32_w]
          rfl
         refine take_ (i := 15) (N := some 21) (v := ?_) (a' := ?_) #[true, true, false, false, true, true, false, false, false, true, true, false, false, false, true, true, false, false, false] rfl rfl (take_ofW HT_.out HW_.out (by kernel_rfl)) (fun _ _ _ h => h) (Or.inl ⟨by rfl, ?_⟩) hHeld ?_ ?_
         rotate_left
         ·rintro w' ⟨s0, s1, s2, s3⟩
          go_simp
          with_reducible rfl
         rotate_left
         ·simp only [Act.put, List.setIfInBounds_toArray, List.set_cons_zero, List.set_cons_succ, i64_w, i32_w]
          rfl
         refine one_ (i := 2) (N := some 8) #[true, true, true, false, true, true, false, false, false, true, true, false, false, false, true, true, false, false, false] rfl rfl (one_of HT_.out (by kernel_rfl)) (by decide) (fun K hK => ?_)
         refine goes_ Tryd.func11 (by kernel_rfl) rfl #[.slice A0_0 l0_0.length c0_0] (by rfl) rfl rfl (by (try simp only [List.map_toArray, List.map_cons, List.map_nil]); first | done | rfl | (simp only [List.length_drop, List.length_take]; rfl)) ?_
         with_reducible refine (spec_SetText.calls k _ _ l0_0 t133 _ ?side1 ?side2 A4.out).mono ?_
         (case side1 => repeat (first | exact (Kd.C_below HR0_0.out HB.out) | (with_reducible refine Kd.C_alloc ?_ _) | (with_reducible refine Kd.C_drewN ?_ _) | (with_reducible refine Kd.C_drew ?_)))
         (case side2 => exact HC0_0.out)
         rintro e w18 ⟨rfl, hb⟩
         refine ⟨_, rfl, ?_⟩
         have n0_ := bb BK131 hb
         have n1_ := aM (below_step (by repeat (first | (with_reducible first | exact HB.out | apply aW1 | apply aW2 | apply aW3 | refine below_set ?_ GE131.out) | exact HB.out)) hb)
         clear BK131 HB; have BK131 := n0_; have HB := n1_; clear n0_ n1_
         (try clear hb)
         (try clear hb2)
         (try clear hk)
         (try clear hi)
         refine hK.out _ _ ⟨(blk_cell BK131.out 0).trans rfl, (blk_cell BK131.out 1).trans rfl, (blk_cell BK131.out 2).trans rfl, (blk_cell BK131.out 3).trans rfl⟩ (fun hHeld => ?_)
         clear hK K
         refine norm_ (a' := ?_) ?_ ?_
         rotate_left
         ·show Act.put _ (some 8) _ = _
          simp only [Act.put, List.setIfInBounds_toArray, List.set_cons_zero, List.set_cons_succ, i64_w, i32_w]
          rfl
         refine pure_ (i := 3) (N := some 9) (v := ?_) (a' := ?_) #[true, true, true, true, true, true, false, false, false, true, true, false, false, false, true, true, false, false, false] rfl rfl (any_of HT_.out (by kernel_rfl)) (fun _ _ _ h => h) (Or.inl ⟨by rfl, ?_⟩) ?_ ?_
         rotate_left
         ·intro w'
          go_simp
          with_reducible rfl
         rotate_left
         ·simp only [Act.put, List.setIfInBounds_toArray, List.set_cons_zero, List.set_cons_succ, i64_w, i32_w]
          rfl
         refine one_ (i := 6) (N := some 12) #[true, true, true, true, true, true, true, false, false, true, true, false, false, false, true, true, false, false, false] rfl rfl (one_of HT_.out (by kernel_rfl)) (by decide) (fun K hK => ?_)
         refine goes_ Tryd.func12 (by kernel_rfl) rfl #[.int .i64 a0_1] (by rfl) rfl rfl (by (try simp only [List.map_toArray, List.map_cons, List.map_nil]); first | done | rfl | (simp only [List.length_drop, List.length_take]; rfl)) ?_
         with_reducible refine (spec_NumText.calls k a0_1 t134 _ A6.out).mono ?_
         rintro e w19 ⟨rfl, hb⟩
         refine ⟨_, rfl, ?_⟩
         have n0_ := bb BK131 hb
         have n1_ := aM (below_step (by repeat (first | (with_reducible first | exact HB.out | apply aW1 | apply aW2 | apply aW3 | refine below_set ?_ GE131.out) | exact HB.out)) hb)
         clear BK131 HB; have BK131 := n0_; have HB := n1_; clear n0_ n1_
         (try clear hb)
         (try clear hb2)
         (try clear hk)
         (try clear hi)
         refine hK.out _ _ ⟨(blk_cell BK131.out 0).trans rfl, (blk_cell BK131.out 1).trans rfl, (blk_cell BK131.out 2).trans rfl, (blk_cell BK131.out 3).trans rfl⟩ (fun hHeld => ?_)
         clear hK K
         refine norm_ (a' := ?_) ?_ ?_
         rotate_left
         ·show Act.put _ (some 12) _ = _
          simp only [Act.put, List.setIfInBounds_toArray, List.set_cons_zero, List.set_cons_succ, i64_w, i32_w]
          rfl
         refine pure_ (i := 7) (N := some 13) (v := ?_) (a' := ?_) #[true, true, true, true, true, true, true, true, false, true, true, false, false, false, true, true, false, false, false] rfl rfl (any_of HT_.out (by kernel_rfl)) (fun _ _ _ h => h) (Or.inl ⟨by rfl, ?_⟩) ?_ ?_
         rotate_left
         ·intro w'
          go_simp
          with_reducible rfl
         rotate_left
         ·simp only [Act.put, List.setIfInBounds_toArray, List.set_cons_zero, List.set_cons_succ, i64_w, i32_w]
          rfl
         refine pure_ (i := 8) (N := some 14) (v := ?_) (a' := ?_) #[true, true, true, true, true, true, true, true, true, true, true, false, false, false, true, true, false, false, false] rfl rfl (any_of HT_.out (by kernel_rfl)) (fun _ _ _ h => h) (Or.inl ⟨by rfl, ?_⟩) ?_ ?_
         rotate_left
         ·intro w'
          go_simp
          with_reducible rfl
         rotate_left
         ·simp only [Act.put, List.setIfInBounds_toArray, List.set_cons_zero, List.set_cons_succ, i64_w, i32_w]
          rfl
         refine one_ (i := 11) (N := some 17) #[true, true, true, true, true, true, true, true, true, true, true, true, false, false, true, true, false, false, false] rfl rfl (one_of HT_.out (by kernel_rfl)) (by decide) (fun K hK => ?_)
         refine goes_ Tryd.func12 (by kernel_rfl) rfl #[.int .i64 a0_2] (by rfl) rfl rfl (by (try simp only [List.map_toArray, List.map_cons, List.map_nil]); first | done | rfl | (simp only [List.length_drop, List.length_take]; rfl)) ?_
         with_reducible refine (spec_NumText.calls k a0_2 t135 _ A9.out).mono ?_
         rintro e w20 ⟨rfl, hb⟩
         refine ⟨_, rfl, ?_⟩
         have n0_ := bb BK131 hb
         have n1_ := aM (below_step (by repeat (first | (with_reducible first | exact HB.out | apply aW1 | apply aW2 | apply aW3 | refine below_set ?_ GE131.out) | exact HB.out)) hb)
         clear BK131 HB; have BK131 := n0_; have HB := n1_; clear n0_ n1_
         (try clear hb)
         (try clear hb2)
         (try clear hk)
         (try clear hi)
         refine hK.out _ _ ⟨(blk_cell BK131.out 0).trans rfl, (blk_cell BK131.out 1).trans rfl, (blk_cell BK131.out 2).trans rfl, (blk_cell BK131.out 3).trans rfl⟩ (fun hHeld => ?_)
         clear hK K
         refine norm_ (a' := ?_) ?_ ?_
         rotate_left
         ·show Act.put _ (some 17) _ = _
          simp only [Act.put, List.setIfInBounds_toArray, List.set_cons_zero, List.set_cons_succ, i64_w, i32_w]
          rfl
         refine pure_ (i := 12) (N := some 18) (v := ?_) (a' := ?_) #[true, true, true, true, true, true, true, true, true, true, true, true, true, false, true, true, false, false, false] rfl rfl (any_of HT_.out (by kernel_rfl)) (fun _ _ _ h => h) (Or.inl ⟨by rfl, ?_⟩) ?_ ?_
         rotate_left
         ·intro w'
          go_simp
          with_reducible rfl
         rotate_left
         ·simp only [Act.put, List.setIfInBounds_toArray, List.set_cons_zero, List.set_cons_succ, i64_w, i32_w]
          rfl
         refine pure_ (i := 13) (N := some 19) (v := ?_) (a' := ?_) #[true, true, true, true, true, true, true, true, true, true, true, true, true, true, true, true, false, false, false] rfl rfl (any_of HT_.out (by kernel_rfl)) (fun _ _ _ h => h) (Or.inl ⟨by rfl, ?_⟩) ?_ ?_
         rotate_left
         ·intro w'
          go_simp
          with_reducible rfl
         rotate_left
         ·simp only [Act.put, List.setIfInBounds_toArray, List.set_cons_zero, List.set_cons_succ, i64_w, i32_w]
          rfl
         refine pure_ (i := 16) (N := some 22) (v := ?_) (a' := ?_) #[true, true, true, true, true, true, true, true, true, true, true, true, true, true, true, true, true, false, false] rfl rfl (any_of HT_.out (by kernel_rfl)) (fun _ _ _ h => h) (Or.inl ⟨by rfl, ?_⟩) ?_ ?_
         rotate_left
         ·intro w'
          go_simp
          with_reducible rfl
         rotate_left
         ·simp only [Act.put, List.setIfInBounds_toArray, List.set_cons_zero, List.set_cons_succ, i64_w, i32_w]
          rfl
         refine pure_ (i := 17) (N := some 23) (v := ?_) (a' := ?_) #[true, true, true, true, true, true, true, true, true, true, true, true, true, true, true, true, true, true, false] rfl rfl (any_of HT_.out (by kernel_rfl)) (fun _ _ _ h => h) (Or.inl ⟨by rfl, ?_⟩) ?_ ?_
         rotate_left
         ·intro w'
          go_simp
          with_reducible rfl
         rotate_left
         ·simp only [Act.put, List.setIfInBounds_toArray, List.set_cons_zero, List.set_cons_succ, i64_w, i32_w]
          rfl
         refine pure_ (i := 18) (N := some 2) (v := ?_) (a' := ?_) #[true, true, true, true, true, true, true, true, true, true, true, true, true, true, true, true, true, true, true] rfl rfl (any_of HT_.out (by kernel_rfl)) (fun _ _ _ h => h) (Or.inl ⟨by rfl, ?_⟩) ?_ ?_
         rotate_left
         ·intro w'
          go_simp
          with_reducible rfl
         rotate_left
         ·simp only [Act.put, List.setIfInBounds_toArray, List.set_cons_zero, List.set_cons_succ, i64_w, i32_w]
          rfl
         refine done_ (done_of HT_.out (by kernel_rfl)) ?_
         try go_wp2
         go_ret
         exact ⟨by first | rfl | (simp [errW_none, errW_some] <;> rfl) | (simp [*, errW_none, errW_some] <;> rfl), by repeat (first | (with_reducible first | exact HB.out | apply aW1 | apply aW2 | apply aW3 | refine below_set ?_ GE131.out) | exact HB.out)⟩
        ·rw [if_neg c13] at H
         exact absurd H (by simp)
       ·rw [if_neg c12] at H
        exact absurd H (by simp)
      ·rw [if_neg c11] at H
       exact absurd H (by simp)
     ·rw [if_neg c10] at H
      exact absurd H (by simp)
    ·rw [if_neg c8] at H
     exact absurd H (by simp)
   ·rw [if_neg c7] at H
    exact absurd H (by simp)
  ·rw [if_neg c5] at H
   exact absurd H (by simp)
 ·replace c3 := Bool.eq_false_iff.mpr c3
  subst c3
  have H1 : (some (⟨#[]⟩ : ByteArray)) = some r := by rw [if_neg (show ¬ (false = true) by decide)] at H; exact H
  clear H
  have H := H1
  clear H1
  obtain rfl := Option.some.inj H
  go_enter Tryd.func5, Tryd.ntmps5
  go_wp2_with (first | ((with_reducible refine gate_dst (N := 1) rfl ?_); refine box_event ?hg (N := 1) ?hd (cs := #[.slice A0_0 l0_0.length c0_0, .int .i64 a0_1, .int .i64 a0_2, .string a0_3]) (t := 29) ?hr ?_; (case hd => rfl); (case hg => rfl); (case hr => first | (go_simp; done) | (go_simp; rfl)); intro gb131 hg w21 hbox hb; have n0_ := aM (below_step (by repeat (first | (with_reducible first | exact HB.out | apply aW1 | apply aW2 | apply aW3) | exact HB.out)) hb); have n1_ := aM (hbox); have n2_ := aM ((by rw [hg]; exact (below_size (by repeat (first | (with_reducible first | exact HB.out | apply aW1 | apply aW2 | apply aW3) | exact HB.out))) : w.heap.size ≤ gb131)); have n3_ := aM ((by rw [hg]; exact (below_size (by repeat (first | (with_reducible first | exact HB.out | apply aW1 | apply aW2 | apply aW3) | exact HB.out))) : w.heap.size ≤ gb131)); clear HB; have HB := n0_; have BK131 := n1_; have GW131 := n2_; have GE131 := n3_; clear n0_ n1_ n2_ n3_ hb hbox hg; have hcz22_0 := cz4_0 BK131; have hcz22_1 := cz4_1 BK131; have hcz22_2 := cz4_2 BK131; have hcz22_3 := cz4_3 BK131; have hfz22_0 := blk_frozen BK131.out 0; have hfz22_1 := blk_frozen BK131.out 1; have hfz22_2 := blk_frozen BK131.out 2; have hfz22_3 := blk_frozen BK131.out 3) | ((with_reducible refine gate_callee (f := 10) rfl ?_); refine goesL_ (some 4) rfl rfl Tryd.func10 (by kernel_rfl) rfl #[.agg #[.slice A0_0 l0_0.length c0_0, .int .i64 a0_1, .int .i64 a0_2, .string a0_3]] rfl (by (try simp only [List.map_toArray, List.map_cons, List.map_nil]); first | done | rfl | (simp only [List.length_drop, List.length_take]; rfl)) ?_; (with_reducible refine (spec_AlarmOk.calls k _ _ l0_0 a0_1 a0_2 a0_3 false _ ?side1 ?side2 A2.out).mono ?_); (case side1 => repeat (first | exact (Kd.C_below HR0_0.out HB.out) | (with_reducible refine Kd.C_alloc ?_ _) | (with_reducible refine Kd.C_drewN ?_ _) | (with_reducible refine Kd.C_drew ?_))); (case side2 => exact HC0_0.out); rintro e w23 ⟨rfl, hb⟩; refine ⟨_, rfl, ?_⟩; have n0_ := bb BK131 hb; have n1_ := aM (below_step (by repeat (first | (with_reducible first | exact HB.out | apply aW1 | apply aW2 | apply aW3 | refine below_set ?_ GE131.out) | exact HB.out)) hb); clear BK131 HB; have BK131 := n0_; have HB := n1_; clear n0_ n1_; (try clear hb); (try clear hb2); (try clear hk); (try clear hi)))
  go_ret
  exact ⟨by first | rfl | (simp [errW_none, errW_some] <;> rfl) | (simp [*, errW_none, errW_some] <;> rfl), by repeat (first | (with_reducible first | exact HB.out | apply aW1 | apply aW2 | apply aW3 | refine below_set ?_ GE131.out) | exact HB.out)⟩

/-! ### laws_toLabel: function 22 -/
def laws_toLabel.f (a0_0 : ByteArray) (a0_1 : ByteArray) : Option (ByteArray × ByteArray) := some (a0_0, a0_1)
set_option maxHeartbeats 8000000 in
set_option maxRecDepth 100000 in
theorem laws_toLabel.calls (a0_0 : ByteArray) (a0_1 : ByteArray) (r1 : ByteArray) (r2 : ByteArray) (w : World) (h : laws_toLabel.f a0_0 a0_1 = some (r1, r2)) :
  Calls Tryd.prog 22 #[.agg #[.string a0_0, .string a0_1]] w fun e w' => e = .returned (.agg #[.string r1, .string r2]) ∧ Below w.heap.size w w' := by
 have hu41 := Tryd.underlying41
 have hu45 := Tryd.underlying45
 have HB := aM (Below.refl w.heap.size w)
 have H : (some (a0_0, a0_1)) = some (r1, r2) := h
 clear h
 simp only [Option.some.injEq, Prod.mk.injEq] at H
 obtain ⟨rfl, rfl⟩ := H
 go_enter Tryd.func22, Tryd.ntmps22
 go_wp2_with (first | ((with_reducible refine gate_dst (N := 1) rfl ?_); refine box_event ?hg (N := 1) ?hd (cs := #[.string a0_0, .string a0_1]) (t := 41) ?hr ?_; (case hd => rfl); (case hg => rfl); (case hr => first | (go_simp; done) | (go_simp; rfl)); intro gb136 hg w2 hbox hb; have n0_ := aM (below_step (by repeat (first | (with_reducible first | exact HB.out | apply aW1 | apply aW2 | apply aW3) | exact HB.out)) hb); have n1_ := aM (hbox); have n2_ := aM ((by rw [hg]; exact (below_size (by repeat (first | (with_reducible first | exact HB.out | apply aW1 | apply aW2 | apply aW3) | exact HB.out))) : w.heap.size ≤ gb136)); have n3_ := aM ((by rw [hg]; exact (below_size (by repeat (first | (with_reducible first | exact HB.out | apply aW1 | apply aW2 | apply aW3) | exact HB.out))) : w.heap.size ≤ gb136)); clear HB; have HB := n0_; have BK136 := n1_; have GW136 := n2_; have GE136 := n3_; clear n0_ n1_ n2_ n3_ hb hbox hg) | ((with_reducible refine gate_dst (N := 2) rfl ?_); refine box_event ?hg (N := 2) ?hd (cs := #[.string (⟨#[]⟩ : ByteArray), .string (⟨#[]⟩ : ByteArray)]) (t := 45) ?hr ?_; (case hd => rfl); (case hg => rfl); (case hr => first | (go_simp; done) | (go_simp; rfl)); intro gb137 hg w3 hbox hb; have n0_ := bb BK136 hb; have n1_ := aM (below_step (by repeat (first | (with_reducible first | exact HB.out | apply aW1 | apply aW2 | apply aW3 | refine below_set ?_ GE136.out) | exact HB.out)) hb); have n2_ := aM (hbox); have n3_ := aM ((by rw [hg]; exact (below_size (by repeat (first | (with_reducible first | exact HB.out | apply aW1 | apply aW2 | apply aW3 | refine below_set ?_ GE136.out) | exact HB.out))) : w.heap.size ≤ gb137)); have n4_ := aM ((by rw [hg]; exact (below_size (by repeat (first | (with_reducible first | exact HB.out | apply aW1 | apply aW2 | apply aW3 | refine below_set ?_ GE136.out) | exact HB.out))) : w.heap.size ≤ gb137)); have n5_ := aM ((by rw [hg]; exact Nat.ne_of_lt (blk_lt (g := gb136) (aB BK136)) : gb136 ≠ gb137)); have n6_ := aM ((by rw [hg]; exact Nat.ne_of_gt (blk_lt (g := gb136) (aB BK136)) : gb137 ≠ gb136)); clear BK136 HB; have BK136 := n0_; have HB := n1_; have BK137 := n2_; have GW137 := n3_; have GE137 := n4_; have NB136_137 := n5_; have NB137_136 := n6_; clear n0_ n1_ n2_ n3_ n4_ n5_ n6_ hb hbox hg) | ((with_reducible refine gate_dst (N := 3) rfl ?_); refine box_event ?hg (N := 3) ?hd (cs := #[.string (⟨#[]⟩ : ByteArray), .string (⟨#[]⟩ : ByteArray)]) (t := 45) ?hr ?_; (case hd => rfl); (case hg => rfl); (case hr => first | (go_simp; done) | (go_simp; rfl)); intro gb138 hg w4 hbox hb; have n0_ := bb BK136 hb; have n1_ := bb BK137 hb; have n2_ := aM (below_step (by repeat (first | (with_reducible first | exact HB.out | apply aW1 | apply aW2 | apply aW3 | refine below_set ?_ GE136.out | refine below_set ?_ GE137.out) | exact HB.out)) hb); have n3_ := aM (hbox); have n4_ := aM ((by rw [hg]; exact (below_size (by repeat (first | (with_reducible first | exact HB.out | apply aW1 | apply aW2 | apply aW3 | refine below_set ?_ GE136.out | refine below_set ?_ GE137.out) | exact HB.out))) : w.heap.size ≤ gb138)); have n5_ := aM ((by rw [hg]; exact (below_size (by repeat (first | (with_reducible first | exact HB.out | apply aW1 | apply aW2 | apply aW3 | refine below_set ?_ GE136.out | refine below_set ?_ GE137.out) | exact HB.out))) : w.heap.size ≤ gb138)); have n6_ := aM ((by rw [hg]; exact Nat.ne_of_lt (blk_lt (g := gb136) (aB BK136)) : gb136 ≠ gb138)); have n7_ := aM ((by rw [hg]; exact Nat.ne_of_gt (blk_lt (g := gb136) (aB BK136)) : gb138 ≠ gb136)); have n8_ := aM ((by rw [hg]; exact Nat.ne_of_lt (blk_lt (g := gb137) (aB BK137)) : gb137 ≠ gb138)); have n9_ := aM ((by rw [hg]; exact Nat.ne_of_gt (blk_lt (g := gb137) (aB BK137)) : gb138 ≠ gb137)); clear BK136 BK137 HB; have BK136 := n0_; have BK137 := n1_; have HB := n2_; have BK138 := n3_; have GW138 := n4_; have GE138 := n5_; have NB136_138 := n6_; have NB138_136 := n7_; have NB137_138 := n8_; have NB138_137 := n9_; clear n0_ n1_ n2_ n3_ n4_ n5_ n6_ n7_ n8_ n9_ hb hbox hg; have hnb5 := NB136_137.out; have hnc5 := NB137_136.out; have hnb6 := NB136_138.out; have hnc6 := NB138_136.out; have hcz7_0 := cz2_0 BK136; have hcz7_1 := cz2_1 BK136; have hfz7_0 := blk_frozen BK136.out 0; have hfz7_1 := blk_frozen BK136.out 1; have hnb8 := NB138_137.out; have hnc8 := NB137_138.out; have hcz9_0 := cz2_0 BK138; have hcz9_1 := cz2_1 BK138; have hfz9_0 := blk_frozen BK138.out 0; have hfz9_1 := blk_frozen BK138.out 1; have hcz10_0 := cz2_0 BK137; have hcz10_1 := cz2_1 BK137; have hfz10_0 := blk_frozen BK137.out 0; have hfz10_1 := blk_frozen BK137.out 1))
 refine bodyPost_ret (results_cell_row rfl _ _ gb137 45 #[.string a0_0, .string a0_1] (0, 0) _ rfl (by (with_reducible repeat (first | refine aB1 ?_ _ | refine aB2 ?_ | refine aB3 ?_ _)); refine blk_put (cs := #[.string a0_0, .string (⟨#[]⟩ : ByteArray)]) ?_ 1 _ rfl; (with_reducible repeat (first | refine aB1 ?_ _ | refine aB2 ?_ | refine aB3 ?_ _)); refine blk_put (cs := #[.string (⟨#[]⟩ : ByteArray), .string (⟨#[]⟩ : ByteArray)]) ?_ 0 _ rfl; (with_reducible repeat (first | refine aB1 ?_ _ | refine aB2 ?_ | refine aB3 ?_ _)); refine blk_far ?_ NB137_138.out _; (with_reducible repeat (first | refine aB1 ?_ _ | refine aB2 ?_ | refine aB3 ?_ _)); refine blk_far ?_ NB137_138.out _; (with_reducible repeat (first | refine aB1 ?_ _ | refine aB2 ?_ | refine aB3 ?_ _)); exact BK137.out) Tryd.underlying45 rfl (by kernel_rfl)) rfl ?_
 exact ⟨by first | rfl | (simp [errW_none, errW_some] <;> rfl) | (simp [*, errW_none, errW_some] <;> rfl), by repeat (first | (with_reducible first | exact HB.out | apply aW1 | apply aW2 | apply aW3 | refine below_set ?_ GE136.out | refine below_set ?_ GE137.out | refine below_set ?_ GE138.out) | exact HB.out)⟩

end Go.Proofs.YtglefglknlcojadDoor.PFnExactAlarmText
