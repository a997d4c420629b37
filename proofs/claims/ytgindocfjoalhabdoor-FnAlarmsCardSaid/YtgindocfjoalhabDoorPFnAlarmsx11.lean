/- What the Go functions that FnAlarms reaches compute, as Lean functions, and that the machine's calls do so; no conditions. -/
import Derived.Test.YtgindocfjoalhabDoorPFnAlarmsx0
import Derived.Test.YtgindocfjoalhabDoorPFnAlarmsx9
import Derived.Test.YtgindocfjoalhabDoorPFnAlarmsx10
namespace Go.Proofs.YtgindocfjoalhabDoor.PFnAlarms
open Go.Proofs.YtgindocfjoalhabDoor
open Go.RowKit Go.Proofs.YtgindocfjoalhabDoorW.PrintWords Go.Proofs.YtgindocfjoalhabDoorW.PrintLast Go.Proofs.YtgindocfjoalhabDoorW.PrintMore
attribute [local go_sem] max2_int min2_int max_two min_two max_three min_three max_four min_four   -- for this text's walks alone
set_option linter.unusedVariables false
set_option linter.unusedSimpArgs false

/-! ### spec_AlarmText: function 16 -/
def spec_AlarmText.f (k : Nat) (l0_0 : List (S56)) (a0_1 : Int) (a0_2 : Int) (a0_3 : ByteArray) : Option (ByteArray) := (spec_AlarmOk.f k l0_0 a0_1 a0_2 a0_3).bind fun t446 => (if t446 = true then ((spec_SetText.f k l0_0).bind fun t447 => (if t447.size + 1 ≤ 9223372036854775807 then ((spec_NumText.f k a0_1).bind fun t448 => (if (t447 ++ (⟨#[32]⟩ : ByteArray)).size + t448.size ≤ 9223372036854775807 then (if ((t447 ++ (⟨#[32]⟩ : ByteArray)) ++ t448).size + 1 ≤ 9223372036854775807 then ((spec_NumText.f k a0_2).bind fun t449 => (if (((t447 ++ (⟨#[32]⟩ : ByteArray)) ++ t448) ++ (⟨#[45]⟩ : ByteArray)).size + t449.size ≤ 9223372036854775807 then (if ((((t447 ++ (⟨#[32]⟩ : ByteArray)) ++ t448) ++ (⟨#[45]⟩ : ByteArray)) ++ t449).size + 2 ≤ 9223372036854775807 then (if (((((t447 ++ (⟨#[32]⟩ : ByteArray)) ++ t448) ++ (⟨#[45]⟩ : ByteArray)) ++ t449) ++ (⟨#[32, 34]⟩ : ByteArray)).size + a0_3.size ≤ 9223372036854775807 then (if ((((((t447 ++ (⟨#[32]⟩ : ByteArray)) ++ t448) ++ (⟨#[45]⟩ : ByteArray)) ++ t449) ++ (⟨#[32, 34]⟩ : ByteArray)) ++ a0_3).size + 1 ≤ 9223372036854775807 then (some (((((((t447 ++ (⟨#[32]⟩ : ByteArray)) ++ t448) ++ (⟨#[45]⟩ : ByteArray)) ++ t449) ++ (⟨#[32, 34]⟩ : ByteArray)) ++ a0_3) ++ (⟨#[34]⟩ : ByteArray))) else (none)) else (none)) else (none)) else (none))) else (none)) else (none))) else (none))) else (some (⟨#[]⟩ : ByteArray)))
def spec_AlarmText.T3 : Bool × List (List Nat × List Nat) := (true, [([], []), ([0], [0]), ([1], [1]), ([2], [2]), ([], []), ([4], [4]), ([5, 2], [5]), ([3, 6], [3, 6]), ([7], [7]), ([], []), ([9], [9]), ([10, 6], [10]), ([8, 11], [8, 11]), ([12], [12]), ([], []), ([14], [14]), ([13, 15], [13, 15]), ([16], [16]), ([17, 11, 0, 1, 2, 3, 4, 5, 6, 7, 8, 9, 10, 11, 12, 13, 14, 15, 16, 17], [17])])
def spec_AlarmText.B3 : List Nat := [0, 1, 3, 7, 0, 16, 55, 127, 255, 0, 512, 1655, 4095, 8191, 0, 16384, 65535, 131071, 262143]
theorem spec_AlarmText.tab3 : rtab .any (opsOf Tryd.f16 3) = spec_AlarmText.T3 := by kernel_rfl
theorem spec_AlarmText.bits3 : waitsOk spec_AlarmText.T3.2 spec_AlarmText.B3 = true := by kernel_rfl
set_option maxHeartbeats 8000000 in
set_option maxRecDepth 100000 in
theorem spec_AlarmText.calls (k : Nat) (A0_0 : Option Addr) (c0_0 : Nat) (l0_0 : List (S56)) (a0_1 : Int) (a0_2 : Int) (a0_3 : ByteArray) (r : ByteArray) (w : World) (hr0_0 : Kd.C k56 w A0_0 l0_0.length l0_0) (hc0_0 : l0_0.length ≤ c0_0) (h : spec_AlarmText.f k l0_0 a0_1 a0_2 a0_3 = some r) :
  Calls Tryd.prog 16 #[.agg #[.slice A0_0 l0_0.length c0_0, .int .i64 a0_1, .int .i64 a0_2, .string a0_3]] w fun e w' => e = .returned (.string r) ∧ Below w.heap.size w w' := by
 have hu26 := Tryd.underlying26
 have HR0_0 := aM hr0_0
 have HC0_0 := aM hc0_0
 clear hr0_0 hc0_0
 have HB := aM (Below.refl w.heap.size w)
 have H : ((spec_AlarmOk.f k l0_0 a0_1 a0_2 a0_3).bind fun t446 => (if t446 = true then ((spec_SetText.f k l0_0).bind fun t447 => (if t447.size + 1 ≤ 9223372036854775807 then ((spec_NumText.f k a0_1).bind fun t448 => (if (t447 ++ (⟨#[32]⟩ : ByteArray)).size + t448.size ≤ 9223372036854775807 then (if ((t447 ++ (⟨#[32]⟩ : ByteArray)) ++ t448).size + 1 ≤ 9223372036854775807 then ((spec_NumText.f k a0_2).bind fun t449 => (if (((t447 ++ (⟨#[32]⟩ : ByteArray)) ++ t448) ++ (⟨#[45]⟩ : ByteArray)).size + t449.size ≤ 9223372036854775807 then (if ((((t447 ++ (⟨#[32]⟩ : ByteArray)) ++ t448) ++ (⟨#[45]⟩ : ByteArray)) ++ t449).size + 2 ≤ 9223372036854775807 then (if (((((t447 ++ (⟨#[32]⟩ : ByteArray)) ++ t448) ++ (⟨#[45]⟩ : ByteArray)) ++ t449) ++ (⟨#[32, 34]⟩ : ByteArray)).size + a0_3.size ≤ 9223372036854775807 then (if ((((((t447 ++ (⟨#[32]⟩ : ByteArray)) ++ t448) ++ (⟨#[45]⟩ : ByteArray)) ++ t449) ++ (⟨#[32, 34]⟩ : ByteArray)) ++ a0_3).size + 1 ≤ 9223372036854775807 then (some (((((((t447 ++ (⟨#[32]⟩ : ByteArray)) ++ t448) ++ (⟨#[45]⟩ : ByteArray)) ++ t449) ++ (⟨#[32, 34]⟩ : ByteArray)) ++ a0_3) ++ (⟨#[34]⟩ : ByteArray))) else (none)) else (none)) else (none)) else (none))) else (none)) else (none))) else (none))) else (some (⟨#[]⟩ : ByteArray)))) = some r := h
 clear h; replace H := Option.bind_eq_some_iff.mp H; obtain ⟨t446, A20, H⟩ := H; try dsimp only at H
 have A2 := aM A20
 clear A20
 by_cases c3 : t446 = true
 ·subst c3
  have H1 : ((spec_SetText.f k l0_0).bind fun t447 => (if t447.size + 1 ≤ 9223372036854775807 then ((spec_NumText.f k a0_1).bind fun t448 => (if (t447 ++ (⟨#[32]⟩ : ByteArray)).size + t448.size ≤ 9223372036854775807 then (if ((t447 ++ (⟨#[32]⟩ : ByteArray)) ++ t448).size + 1 ≤ 9223372036854775807 then ((spec_NumText.f k a0_2).bind fun t449 => (if (((t447 ++ (⟨#[32]⟩ : ByteArray)) ++ t448) ++ (⟨#[45]⟩ : ByteArray)).size + t449.size ≤ 9223372036854775807 then (if ((((t447 ++ (⟨#[32]⟩ : ByteArray)) ++ t448) ++ (⟨#[45]⟩ : ByteArray)) ++ t449).size + 2 ≤ 9223372036854775807 then (if (((((t447 ++ (⟨#[32]⟩ : ByteArray)) ++ t448) ++ (⟨#[45]⟩ : ByteArray)) ++ t449) ++ (⟨#[32, 34]⟩ : ByteArray)).size + a0_3.size ≤ 9223372036854775807 then (if ((((((t447 ++ (⟨#[32]⟩ : ByteArray)) ++ t448) ++ (⟨#[45]⟩ : ByteArray)) ++ t449) ++ (⟨#[32, 34]⟩ : ByteArray)) ++ a0_3).size + 1 ≤ 9223372036854775807 then (some (((((((t447 ++ (⟨#[32]⟩ : ByteArray)) ++ t448) ++ (⟨#[45]⟩ : ByteArray)) ++ t449) ++ (⟨#[32, 34]⟩ : ByteArray)) ++ a0_3) ++ (⟨#[34]⟩ : ByteArray))) else (none)) else (none)) else (none)) else (none))) else (none)) else (none))) else (none))) = some r := by rw [if_pos rfl] at H; exact H
  clear H
  have H := H1
  clear H1; replace H := Option.bind_eq_some_iff.mp H; obtain ⟨t447, A40, H⟩ := H; try dsimp only at H
  have A4 := aM A40
  clear A40
  by_cases c5 : t447.size + 1 ≤ 9223372036854775807
  ·rw [if_pos c5] at H
   have c5b0 := eq_true c5
   have c5b1 : decide (t447.size + 1 ≤ 9223372036854775807) = true := decide_eq_true c5
   try have c5b2 : (9223372036854775807 < t447.size + 1) = False := eq_false (Nat.not_lt.2 c5)
   replace H := Option.bind_eq_some_iff.mp H; obtain ⟨t448, A60, H⟩ := H; try dsimp only at H
   have A6 := aM A60
   clear A60
   by_cases c7 : (t447 ++ (⟨#[32]⟩ : ByteArray)).size + t448.size ≤ 9223372036854775807
   ·rw [if_pos c7] at H
    have c7b0 := eq_true c7
    have c7b1 : decide ((t447 ++ (⟨#[32]⟩ : ByteArray)).size + t448.size ≤ 9223372036854775807) = true := decide_eq_true c7
    try have c7b2 : (9223372036854775807 < (t447 ++ (⟨#[32]⟩ : ByteArray)).size + t448.size) = False := eq_false (Nat.not_lt.2 c7)
    try (have c7b3 := c7b2; simp only [ByteArray.size_append', ByteArray.size_mk', List.size_toArray, List.length_cons, List.length_nil, Nat.reduceAdd, Nat.zero_add] at c7b3)
    by_cases c8 : ((t447 ++ (⟨#[32]⟩ : ByteArray)) ++ t448).size + 1 ≤ 9223372036854775807
    ·rw [if_pos c8] at H
     have c8b0 := eq_true c8
     have c8b1 : decide (((t447 ++ (⟨#[32]⟩ : ByteArray)) ++ t448).size + 1 ≤ 9223372036854775807) = true := decide_eq_true c8
     try have c8b2 : (9223372036854775807 < ((t447 ++ (⟨#[32]⟩ : ByteArray)) ++ t448).size + 1) = False := eq_false (Nat.not_lt.2 c8)
     try (have c8b3 := c8b2; simp only [ByteArray.size_append', ByteArray.size_mk', List.size_toArray, List.length_cons, List.length_nil, Nat.reduceAdd, Nat.zero_add] at c8b3)
     replace H := Option.bind_eq_some_iff.mp H; obtain ⟨t449, A90, H⟩ := H; try dsimp only at H
     have A9 := aM A90
     clear A90
     by_cases c10 : (((t447 ++ (⟨#[32]⟩ : ByteArray)) ++ t448) ++ (⟨#[45]⟩ : ByteArray)).size + t449.size ≤ 9223372036854775807
     ·rw [if_pos c10] at H
      have c10b0 := eq_true c10
      have c10b1 : decide ((((t447 ++ (⟨#[32]⟩ : ByteArray)) ++ t448) ++ (⟨#[45]⟩ : ByteArray)).size + t449.size ≤ 9223372036854775807) = true := decide_eq_true c10
      try have c10b2 : (9223372036854775807 < (((t447 ++ (⟨#[32]⟩ : ByteArray)) ++ t448) ++ (⟨#[45]⟩ : ByteArray)).size + t449.size) = False := eq_false (Nat.not_lt.2 c10)
      try (have c10b3 := c10b2; simp only [ByteArray.size_append', ByteArray.size_mk', List.size_toArray, List.length_cons, List.length_nil, Nat.reduceAdd, Nat.zero_add] at c10b3)
      by_cases c11 : ((((t447 ++ (⟨#[32]⟩ : ByteArray)) ++ t448) ++ (⟨#[45]⟩ : ByteArray)) ++ t449).size + 2 ≤ 9223372036854775807
      ·rw [if_pos c11] at H
       have c11b0 := eq_true c11
       have c11b1 : decide (((((t447 ++ (⟨#[32]⟩ : ByteArray)) ++ t448) ++ (⟨#[45]⟩ : ByteArray)) ++ t449).size + 2 ≤ 9223372036854775807) = true := decide_eq_true c11
       try have c11b2 : (9223372036854775807 < ((((t447 ++ (⟨#[32]⟩ : ByteArray)) ++ t448) ++ (⟨#[45]⟩ : ByteArray)) ++ t449).size + 2) = False := eq_false (Nat.not_lt.2 c11)
       try (have c11b3 := c11b2; simp only [ByteArray.size_append', ByteArray.size_mk', List.size_toArray, List.length_cons, List.length_nil, Nat.reduceAdd, Nat.zero_add] at c11b3)
       by_cases c12 : (((((t447 ++ (⟨#[32]⟩ : ByteArray)) ++ t448) ++ (⟨#[45]⟩ : ByteArray)) ++ t449) ++ (⟨#[32, 34]⟩ : ByteArray)).size + a0_3.size ≤ 9223372036854775807
       ·rw [if_pos c12] at H
        have c12b0 := eq_true c12
        have c12b1 : decide ((((((t447 ++ (⟨#[32]⟩ : ByteArray)) ++ t448) ++ (⟨#[45]⟩ : ByteArray)) ++ t449) ++ (⟨#[32, 34]⟩ : ByteArray)).size + a0_3.size ≤ 9223372036854775807) = true := decide_eq_true c12
        try have c12b2 : (9223372036854775807 < (((((t447 ++ (⟨#[32]⟩ : ByteArray)) ++ t448) ++ (⟨#[45]⟩ : ByteArray)) ++ t449) ++ (⟨#[32, 34]⟩ : ByteArray)).size + a0_3.size) = False := eq_false (Nat.not_lt.2 c12)
        try (have c12b3 := c12b2; simp only [ByteArray.size_append', ByteArray.size_mk', List.size_toArray, List.length_cons, List.length_nil, Nat.reduceAdd, Nat.zero_add] at c12b3)
        by_cases c13 : ((((((t447 ++ (⟨#[32]⟩ : ByteArray)) ++ t448) ++ (⟨#[45]⟩ : ByteArray)) ++ t449) ++ (⟨#[32, 34]⟩ : ByteArray)) ++ a0_3).size + 1 ≤ 9223372036854775807
        ·rw [if_pos c13] at H
         have c13b0 := eq_true c13
         have c13b1 : decide (((((((t447 ++ (⟨#[32]⟩ : ByteArray)) ++ t448) ++ (⟨#[45]⟩ : ByteArray)) ++ t449) ++ (⟨#[32, 34]⟩ : ByteArray)) ++ a0_3).size + 1 ≤ 9223372036854775807) = true := decide_eq_true c13
         try have c13b2 : (9223372036854775807 < ((((((t447 ++ (⟨#[32]⟩ : ByteArray)) ++ t448) ++ (⟨#[45]⟩ : ByteArray)) ++ t449) ++ (⟨#[32, 34]⟩ : ByteArray)) ++ a0_3).size + 1) = False := eq_false (Nat.not_lt.2 c13)
         try (have c13b3 := c13b2; simp only [ByteArray.size_append', ByteArray.size_mk', List.size_toArray, List.length_cons, List.length_nil, Nat.reduceAdd, Nat.zero_add] at c13b3)
         obtain rfl := Option.some.inj H
         go_enter Tryd.func16, Tryd.ntmps16
         try go_wp2_with (first | ((with_reducible refine gate_dst (N := 1) rfl ?_); refine box_event ?hg (N := 1) ?hd (cs := #[.slice A0_0 l0_0.length c0_0, .int .i64 a0_1, .int .i64 a0_2, .string a0_3]) (t := 26) ?hr ?_; (case hd => rfl); (case hg => rfl); (case hr => first | (go_simp; done) | (go_simp; rfl)); intro gb445 hg w14 hbox hb; have n0_ := aM (below_step (by repeat (first | (with_reducible first | exact HB.out | apply aW1 | apply aW2 | apply aW3) | exact HB.out)) hb); have n1_ := aM (hbox); have n2_ := aM ((by rw [hg]; exact (below_size (by repeat (first | (with_reducible first | exact HB.out | apply aW1 | apply aW2 | apply aW3) | exact HB.out))) : w.heap.size ≤ gb445)); have n3_ := aM ((by rw [hg]; exact (below_size (by repeat (first | (with_reducible first | exact HB.out | apply aW1 | apply aW2 | apply aW3) | exact HB.out))) : w.heap.size ≤ gb445)); clear HB; have HB := n0_; have BK445 := n1_; have GW445 := n2_; have GE445 := n3_; clear n0_ n1_ n2_ n3_ hb hbox hg; have hcz15_0 := cz4_0 BK445; have hcz15_1 := cz4_1 BK445; have hcz15_2 := cz4_2 BK445; have hcz15_3 := cz4_3 BK445; have hfz15_0 := blk_frozen BK445.out 0; have hfz15_1 := blk_frozen BK445.out 1; have hfz15_2 := blk_frozen BK445.out 2; have hfz15_3 := blk_frozen BK445.out 3) | ((with_reducible refine gate_callee (f := 10) rfl ?_); refine goesL_ (some 4) rfl rfl Tryd.func10 (by kernel_rfl) rfl #[.agg #[.slice A0_0 l0_0.length c0_0, .int .i64 a0_1, .int .i64 a0_2, .string a0_3]] rfl (by (try simp only [List.map_toArray, List.map_cons, List.map_nil]); first | done | rfl | (simp only [List.length_drop, List.length_take]; rfl)) ?_; (with_reducible refine (spec_AlarmOk.calls k _ _ l0_0 a0_1 a0_2 a0_3 true _ ?side1 ?side2 A2.out).mono ?_); (case side1 => repeat (first | exact (Kd.C_below HR0_0.out HB.out) | (with_reducible refine Kd.C_alloc ?_ _) | (with_reducible refine Kd.C_drewN ?_ _) | (with_reducible refine Kd.C_drew ?_))); (case side2 => exact HC0_0.out); rintro e w16 ⟨rfl, hb⟩; refine ⟨_, rfl, ?_⟩; have n0_ := bb BK445 hb; have n1_ := aM (below_step (by repeat (first | (with_reducible first | exact HB.out | apply aW1 | apply aW2 | apply aW3 | refine below_set ?_ GE445.out) | exact HB.out)) hb); clear BK445 HB; have BK445 := n0_; have HB := n1_; clear n0_ n1_; (try clear hb); (try clear hb2); (try clear hk); (try clear hi)))
         have n0_ := aM (blk_drew BK445.out)
         have n1_ := aM (below_drew1 HB.out)
         clear BK445 HB; have BK445 := n0_; have HB := n1_; clear n0_ n1_
         refine start_ (n := 19) (S := fun w' => w'.cell? ⟨gb445, 0, none⟩ = some (.slice A0_0 l0_0.length c0_0) ∧ w'.cell? ⟨gb445, 1, none⟩ = some (.int .i64 a0_1) ∧ w'.cell? ⟨gb445, 2, none⟩ = some (.int .i64 a0_2) ∧ w'.cell? ⟨gb445, 3, none⟩ = some (.string a0_3)) (ds := []) (bz 19 0) (by kernel_rfl) rfl (by kernel_rfl) ⟨(blk_cell BK445.out 0).trans rfl, (blk_cell BK445.out 1).trans rfl, (blk_cell BK445.out 2).trans rfl, (blk_cell BK445.out 3).trans rfl⟩ (fun hHeld => ?_); refine with_tabW spec_AlarmText.tab3 spec_AlarmText.bits3 (fun HT_ HW_ => ?_)
         generalize w16.drew = w17 at BK445 HB hHeld ⊢
         refine (pu 0 (some 6) 1 ?_ ?_ HT_ rfl rfl (by kernel_rfl) (fun _ _ _ h => h) ?_ ?_ ?_ (pu 4 (some 10) 17 ?_ ?_ HT_ rfl rfl (by kernel_rfl) (fun _ _ _ h => h) ?_ ?_ ?_ (pu 9 (some 15) 529 ?_ ?_ HT_ rfl rfl (by kernel_rfl) (fun _ _ _ h => h) ?_ ?_ ?_ (pu 14 (some 20) 16913 ?_ ?_ HT_ rfl rfl (by kernel_rfl) (fun _ _ _ h => h) ?_ ?_ ?_ (tk 1 (some 7) 16915 ?_ ?_ HT_ HW_ rfl rfl (by kernel_rfl) (fun _ _ _ h => h) hHeld ?_ ?_ ?_ (tk 5 (some 11) 16947 ?_ ?_ HT_ HW_ rfl rfl (by kernel_rfl) (fun _ _ _ h => h) hHeld ?_ ?_ ?_ (tk 10 (some 16) 17971 ?_ ?_ HT_ HW_ rfl rfl (by kernel_rfl) (fun _ _ _ h => h) hHeld ?_ ?_ ?_ (tk 15 (some 21) 50739 ?_ ?_ HT_ HW_ rfl rfl (by kernel_rfl) (fun _ _ _ h => h) hHeld ?_ ?_ ?_ ?_))))))))
         all_goals first | (rintro w' ⟨s0, s1, s2, s3⟩; go_simp; with_reducible rfl) | (intro w'; go_simp; with_reducible rfl) | (simp only [Act.put, List.setIfInBounds_toArray, List.set_cons_zero, List.set_cons_succ, i64_w, i32_w]; rfl) | rfl | skip
         refine one_ (i := 2) (N := some 8) (bz 19 50743) rfl rfl (one_of HT_.out (by kernel_rfl)) (by decide) (fun K hK => ?_)
         refine goes_ Tryd.func32 (by kernel_rfl) rfl #[.slice A0_0 l0_0.length c0_0] (by rfl) rfl rfl (by (try simp only [List.map_toArray, List.map_cons, List.map_nil]); first | done | rfl | (simp only [List.length_drop, List.length_take]; rfl)) ?_
         with_reducible refine (spec_SetText.calls k _ _ l0_0 t447 _ ?side1 ?side2 A4.out).mono ?_
         (case side1 => repeat (first | exact (Kd.C_below HR0_0.out HB.out) | (with_reducible refine Kd.C_alloc ?_ _) | (with_reducible refine Kd.C_drewN ?_ _) | (with_reducible refine Kd.C_drew ?_)))
         (case side2 => exact HC0_0.out)
         rintro e w18 ⟨rfl, hb⟩
         refine ⟨_, rfl, ?_⟩
         have n0_ := bb BK445 hb
         have n1_ := aM (below_step (by repeat (first | (with_reducible first | exact HB.out | apply aW1 | apply aW2 | apply aW3 | refine below_set ?_ GE445.out) | exact HB.out)) hb)
         clear BK445 HB; have BK445 := n0_; have HB := n1_; clear n0_ n1_
         (try clear hb)
         (try clear hb2)
         (try clear hk)
         (try clear hi)
         refine hK.out _ _ ⟨(blk_cell BK445.out 0).trans rfl, (blk_cell BK445.out 1).trans rfl, (blk_cell BK445.out 2).trans rfl, (blk_cell BK445.out 3).trans rfl⟩ (fun hHeld => ?_)
         clear hK K
         refine norm_ (a' := ?_) ?_ ?_
         rotate_left
         ·show Act.put _ (some 8) _ = _
          simp only [Act.put, List.setIfInBounds_toArray, List.set_cons_zero, List.set_cons_succ, i64_w, i32_w]
          rfl
         refine (pu 3 (some 9) 50751 ?_ ?_ HT_ rfl rfl (by kernel_rfl) (fun _ _ _ h => h) ?_ ?_ ?_ ?_)
         all_goals first | (intro w'; go_simp; with_reducible rfl) | (simp only [Act.put, List.setIfInBounds_toArray, List.set_cons_zero, List.set_cons_succ, i64_w, i32_w]; rfl) | rfl | skip
         refine one_ (i := 6) (N := some 12) (bz 19 50815) rfl rfl (one_of HT_.out (by kernel_rfl)) (by decide) (fun K hK => ?_)
         refine goes_ Tryd.func33 (by kernel_rfl) rfl #[.int .i64 a0_1] (by rfl) rfl rfl (by (try simp only [List.map_toArray, List.map_cons, List.map_nil]); first | done | rfl | (simp only [List.length_drop, List.length_take]; rfl)) ?_
         with_reducible refine (spec_NumText.calls k a0_1 t448 _ A6.out).mono ?_
         rintro e w19 ⟨rfl, hb⟩
         refine ⟨_, rfl, ?_⟩
         have n0_ := bb BK445 hb
         have n1_ := aM (below_step (by repeat (first | (with_reducible first | exact HB.out | apply aW1 | apply aW2 | apply aW3 | refine below_set ?_ GE445.out) | exact HB.out)) hb)
         clear BK445 HB; have BK445 := n0_; have HB := n1_; clear n0_ n1_
         (try clear hb)
         (try clear hb2)
         (try clear hk)
         (try clear hi)
         refine hK.out _ _ ⟨(blk_cell BK445.out 0).trans rfl, (blk_cell BK445.out 1).trans rfl, (blk_cell BK445.out 2).trans rfl, (blk_cell BK445.out 3).trans rfl⟩ (fun hHeld => ?_)
         clear hK K
         refine norm_ (a' := ?_) ?_ ?_
         rotate_left
         ·show Act.put _ (some 12) _ = _
          simp only [Act.put, List.setIfInBounds_toArray, List.set_cons_zero, List.set_cons_succ, i64_w, i32_w]
          rfl
         refine (pu 7 (some 13) 50943 ?_ ?_ HT_ rfl rfl (by kernel_rfl) (fun _ _ _ h => h) ?_ ?_ ?_ (pu 8 (some 14) 51199 ?_ ?_ HT_ rfl rfl (by kernel_rfl) (fun _ _ _ h => h) ?_ ?_ ?_ ?_))
         all_goals first | (intro w'; go_simp; with_reducible rfl) | (simp only [Act.put, List.setIfInBounds_toArray, List.set_cons_zero, List.set_cons_succ, i64_w, i32_w]; rfl) | rfl | skip
         refine one_ (i := 11) (N := some 17) (bz 19 53247) rfl rfl (one_of HT_.out (by kernel_rfl)) (by decide) (fun K hK => ?_)
         refine goes_ Tryd.func33 (by kernel_rfl) rfl #[.int .i64 a0_2] (by rfl) rfl rfl (by (try simp only [List.map_toArray, List.map_cons, List.map_nil]); first | done | rfl | (simp only [List.length_drop, List.length_take]; rfl)) ?_
         with_reducible refine (spec_NumText.calls k a0_2 t449 _ A9.out).mono ?_
         rintro e w20 ⟨rfl, hb⟩
         refine ⟨_, rfl, ?_⟩
         have n0_ := bb BK445 hb
         have n1_ := aM (below_step (by repeat (first | (with_reducible first | exact HB.out | apply aW1 | apply aW2 | apply aW3 | refine below_set ?_ GE445.out) | exact HB.out)) hb)
         clear BK445 HB; have BK445 := n0_; have HB := n1_; clear n0_ n1_
         (try clear hb)
         (try clear hb2)
         (try clear hk)
         (try clear hi)
         refine hK.out _ _ ⟨(blk_cell BK445.out 0).trans rfl, (blk_cell BK445.out 1).trans rfl, (blk_cell BK445.out 2).trans rfl, (blk_cell BK445.out 3).trans rfl⟩ (fun hHeld => ?_)
         clear hK K
         refine norm_ (a' := ?_) ?_ ?_
         rotate_left
         ·show Act.put _ (some 17) _ = _
          simp only [Act.put, List.setIfInBounds_toArray, List.set_cons_zero, List.set_cons_succ, i64_w, i32_w]
          rfl
         refine (pu 12 (some 18) 57343 ?_ ?_ HT_ rfl rfl (by kernel_rfl) (fun _ _ _ h => h) ?_ ?_ ?_ (pu 13 (some 19) 65535 ?_ ?_ HT_ rfl rfl (by kernel_rfl) (fun _ _ _ h => h) ?_ ?_ ?_ (pu 16 (some 22) 131071 ?_ ?_ HT_ rfl rfl (by kernel_rfl) (fun _ _ _ h => h) ?_ ?_ ?_ (pu 17 (some 23) 262143 ?_ ?_ HT_ rfl rfl (by kernel_rfl) (fun _ _ _ h => h) ?_ ?_ ?_ (pu 18 (some 2) 524287 ?_ ?_ HT_ rfl rfl (by kernel_rfl) (fun _ _ _ h => h) ?_ ?_ ?_ ?_)))))
         all_goals first | (intro w'; go_simp; with_reducible rfl) | (simp only [Act.put, List.setIfInBounds_toArray, List.set_cons_zero, List.set_cons_succ, i64_w, i32_w]; rfl) | rfl | skip
         refine done_ (done_of HT_.out (by kernel_rfl)) ?_
         try go_wp2
         go_ret
         exact ⟨by first | rfl | (simp [errW_none, errW_some] <;> rfl) | (simp [*, errW_none, errW_some] <;> rfl), by repeat (first | (with_reducible first | exact HB.out | apply aW1 | apply aW2 | apply aW3 | refine below_set ?_ GE445.out) | exact HB.out)⟩
        ·rw [if_neg c13] at H
         exact absurd H (by simp)
       ·rw [if_neg c12] at H
        exact absurd H (by simp)
      ·rw [if_neg c11] at H
       exact absurd H (by simp)
     ·rw [if_neg c10] at H
      exact absurd H (by simp)
    ·rw [if_neg c8] at H
     exact absurd H (by simp)
   ·rw [if_neg c7] at H
    exact absurd H (by simp)
  ·rw [if_neg c5] at H
   exact absurd H (by simp)
 ·replace c3 := Bool.eq_false_iff.mpr c3
  subst c3
  have H1 : (some (⟨#[]⟩ : ByteArray)) = some r := by rw [if_neg (show ¬ (false = true) by decide)] at H; exact H
  clear H
  have H := H1
  clear H1
  obtain rfl := Option.some.inj H
  go_enter Tryd.func16, Tryd.ntmps16
  go_wp2_with (first | ((with_reducible refine gate_dst (N := 1) rfl ?_); refine box_event ?hg (N := 1) ?hd (cs := #[.slice A0_0 l0_0.length c0_0, .int .i64 a0_1, .int .i64 a0_2, .string a0_3]) (t := 26) ?hr ?_; (case hd => rfl); (case hg => rfl); (case hr => first | (go_simp; done) | (go_simp; rfl)); intro gb445 hg w21 hbox hb; have n0_ := aM (below_step (by repeat (first | (with_reducible first | exact HB.out | apply aW1 | apply aW2 | apply aW3) | exact HB.out)) hb); have n1_ := aM (hbox); have n2_ := aM ((by rw [hg]; exact (below_size (by repeat (first | (with_reducible first | exact HB.out | apply aW1 | apply aW2 | apply aW3) | exact HB.out))) : w.heap.size ≤ gb445)); have n3_ := aM ((by rw [hg]; exact (below_size (by repeat (first | (with_reducible first | exact HB.out | apply aW1 | apply aW2 | apply aW3) | exact HB.out))) : w.heap.size ≤ gb445)); clear HB; have HB := n0_; have BK445 := n1_; have GW445 := n2_; have GE445 := n3_; clear n0_ n1_ n2_ n3_ hb hbox hg; have hcz22_0 := cz4_0 BK445; have hcz22_1 := cz4_1 BK445; have hcz22_2 := cz4_2 BK445; have hcz22_3 := cz4_3 BK445; have hfz22_0 := blk_frozen BK445.out 0; have hfz22_1 := blk_frozen BK445.out 1; have hfz22_2 := blk_frozen BK445.out 2; have hfz22_3 := blk_frozen BK445.out 3) | ((with_reducible refine gate_callee (f := 10) rfl ?_); refine goesL_ (some 4) rfl rfl Tryd.func10 (by kernel_rfl) rfl #[.agg #[.slice A0_0 l0_0.length c0_0, .int .i64 a0_1, .int .i64 a0_2, .string a0_3]] rfl (by (try simp only [List.map_toArray, List.map_cons, List.map_nil]); first | done | rfl | (simp only [List.length_drop, List.length_take]; rfl)) ?_; (with_reducible refine (spec_AlarmOk.calls k _ _ l0_0 a0_1 a0_2 a0_3 false _ ?side1 ?side2 A2.out).mono ?_); (case side1 => repeat (first | exact (Kd.C_below HR0_0.out HB.out) | (with_reducible refine Kd.C_alloc ?_ _) | (with_reducible refine Kd.C_drewN ?_ _) | (with_reducible refine Kd.C_drew ?_))); (case side2 => exact HC0_0.out); rintro e w23 ⟨rfl, hb⟩; refine ⟨_, rfl, ?_⟩; have n0_ := bb BK445 hb; have n1_ := aM (below_step (by repeat (first | (with_reducible first | exact HB.out | apply aW1 | apply aW2 | apply aW3 | refine below_set ?_ GE445.out) | exact HB.out)) hb); clear BK445 HB; have BK445 := n0_; have HB := n1_; clear n0_ n1_; (try clear hb); (try clear hb2); (try clear hk); (try clear hi)))
  go_ret
  exact ⟨by first | rfl | (simp [errW_none, errW_some] <;> rfl) | (simp [*, errW_none, errW_some] <;> rfl), by repeat (first | (with_reducible first | exact HB.out | apply aW1 | apply aW2 | apply aW3 | refine below_set ?_ GE445.out) | exact HB.out)⟩

end Go.Proofs.YtgindocfjoalhabDoor.PFnAlarms
