/- What the Go functions that FnPrints reaches compute, as Lean functions, and that the machine's calls do so; no conditions. -/
import Derived.Test.YtgindocfjoalhabPFnPrintsx0
import Derived.Test.YtgindocfjoalhabPFnPrintsx2
import Derived.Test.YtgindocfjoalhabPFnPrintsx7
namespace Go.Proofs.Ytgindocfjoalhab.PFnPrints
open Go.Proofs.Ytgindocfjoalhab
open Go.RowKit Go.Proofs.YtgindocfjoalhabW.PrintWords Go.Proofs.YtgindocfjoalhabW.PrintLast Go.Proofs.YtgindocfjoalhabW.PrintMore
attribute [local go_sem] max2_int min2_int max_two min_two max_three min_three max_four min_four   -- for this text's walks alone
set_option linter.unusedVariables false
set_option linter.unusedSimpArgs false

/-! ### spec_SetText: function 18 -/
def spec_SetText.l0 : Nat → List (S86) → ByteArray → Int → Option (ByteArray)
 | 0, _, _, _ => none
 | k + 1, x0, x3, x4 => if x4 < (x0.length : Int) then (if x4 > 0 then (if x3.size + 2 ≤ 9223372036854775807 then (if 0 ≤ x4 then (if (x3 ++ (⟨#[44, 32]⟩ : ByteArray)).size + ((rd_T86 x0 x4).f0).size ≤ 9223372036854775807 then (if ((x3 ++ (⟨#[44, 32]⟩ : ByteArray)) ++ ((rd_T86 x0 x4).f0)).size + 2 ≤ 9223372036854775807 then (if (((x3 ++ (⟨#[44, 32]⟩ : ByteArray)) ++ ((rd_T86 x0 x4).f0)) ++ (⟨#[61, 34]⟩ : ByteArray)).size + ((rd_T86 x0 x4).f1).size ≤ 9223372036854775807 then (if ((((x3 ++ (⟨#[44, 32]⟩ : ByteArray)) ++ ((rd_T86 x0 x4).f0)) ++ (⟨#[61, 34]⟩ : ByteArray)) ++ ((rd_T86 x0 x4).f1)).size + 1 ≤ 9223372036854775807 then (spec_SetText.l0 k x0 (((((x3 ++ (⟨#[44, 32]⟩ : ByteArray)) ++ ((rd_T86 x0 x4).f0)) ++ (⟨#[61, 34]⟩ : ByteArray)) ++ ((rd_T86 x0 x4).f1)) ++ (⟨#[34]⟩ : ByteArray)) (wrap64 (x4 + 1))) else (none)) else (none)) else (none)) else (none)) else (none)) else (none)) else (if 0 ≤ x4 then (if x3.size + ((rd_T86 x0 x4).f0).size ≤ 9223372036854775807 then (if (x3 ++ ((rd_T86 x0 x4).f0)).size + 2 ≤ 9223372036854775807 then (if ((x3 ++ ((rd_T86 x0 x4).f0)) ++ (⟨#[61, 34]⟩ : ByteArray)).size + ((rd_T86 x0 x4).f1).size ≤ 9223372036854775807 then (if (((x3 ++ ((rd_T86 x0 x4).f0)) ++ (⟨#[61, 34]⟩ : ByteArray)) ++ ((rd_T86 x0 x4).f1)).size + 1 ≤ 9223372036854775807 then (spec_SetText.l0 k x0 ((((x3 ++ ((rd_T86 x0 x4).f0)) ++ (⟨#[61, 34]⟩ : ByteArray)) ++ ((rd_T86 x0 x4).f1)) ++ (⟨#[34]⟩ : ByteArray)) (wrap64 (x4 + 1))) else (none)) else (none)) else (none)) else (none)) else (none))) else (if x3.size + 1 ≤ 9223372036854775807 then (some (x3 ++ (⟨#[125]⟩ : ByteArray))) else (none))
def spec_SetText.f (k : Nat) (l0 : List (S86)) : Option (ByteArray) := (spec_SetOk.f k l0).bind fun t285 => (if t285 = true then (spec_SetText.l0 k l0 (⟨#[123]⟩ : ByteArray) 0) else (some (⟨#[]⟩ : ByteArray)))
theorem spec_SetText.mono_l : ∀ k, (∀ y0 y1 y2, LeO (spec_SetText.l0 k y0 y1 y2) (spec_SetText.l0 (k + 1) y0 y1 y2))
 | 0 => fun _ _ _ r h => by simp [spec_SetText.l0] at h
 | k + 1 => by
  have ih0 := spec_SetText.mono_l k
  ·intro y0 y1 y2
   unfold spec_SetText.l0
   repeat' first
   | (with_reducible exact ih0 _ _ _)
   | (with_reducible exact spec_SetOk.mono _ _)
   | (with_reducible exact LeO.refl _)
   | (with_reducible exact LeO.none _)
   | (with_reducible refine LeO.ite ?_ ?_)
   | (with_reducible refine LeO.bind ?_ (fun _ => ?_))
   | exact ih0 _ _ _
   | exact spec_SetOk.mono _ _
   | exact LeO.none _
   | refine LeO.ite ?_ ?_
   | refine LeO.bind ?_ (fun _ => ?_)
theorem spec_SetText.mono : ∀ a0 k, LeO (spec_SetText.f k a0) (spec_SetText.f (k + 1) a0) := by
 intro a0 k
 have ih0 := spec_SetText.mono_l k
 unfold spec_SetText.f
 repeat' first
   | (with_reducible exact ih0 _ _ _)
   | (with_reducible exact spec_SetOk.mono _ _)
   | (with_reducible exact LeO.refl _)
   | (with_reducible exact LeO.none _)
   | (with_reducible refine LeO.ite ?_ ?_)
   | (with_reducible refine LeO.bind ?_ (fun _ => ?_))
   | exact ih0 _ _ _
   | exact spec_SetOk.mono _ _
   | exact LeO.none _
   | refine LeO.ite ?_ ?_
   | refine LeO.bind ?_ (fun _ => ?_)
set_option maxHeartbeats 8000000 in
set_option maxRecDepth 100000 in
theorem spec_SetText.calls (k : Nat) (A0 : Option Addr) (c0 : Nat) (l0 : List (S86)) (r : ByteArray) (w : World) (hr0 : Kd.C k86 w A0 l0.length l0) (hc0 : l0.length ≤ c0) (h : spec_SetText.f k l0 = some r) :
  Calls Try.prog 18 #[.slice A0 l0.length c0] w fun e w' => e = .returned (.string r) ∧ Below w.heap.size w w' := by
 have HR0 := aM hr0
 have HC0 := aM hc0
 clear hr0 hc0
 have HB := aM (Below.refl w.heap.size w)
 have H : ((spec_SetOk.f k l0).bind fun t285 => (if t285 = true then (spec_SetText.l0 k l0 (⟨#[123]⟩ : ByteArray) 0) else (some (⟨#[]⟩ : ByteArray)))) = some r := h
 clear h; replace H := Option.bind_eq_some_iff.mp H; obtain ⟨t285, A20, H⟩ := H; try dsimp only at H
 have A2 := aM A20
 clear A20
 by_cases c3 : t285 = true
 ·subst c3
  have H1 : (spec_SetText.l0 k l0 (⟨#[123]⟩ : ByteArray) 0) = some r := by rw [if_pos rfl] at H; exact H
  clear H
  have H := H1
  clear H1
  have H' := aM H
  clear H
  go_enter Try.func18, Try.ntmps18
  go_wp2_with (first | (go_at_call 76; (with_reducible refine (spec_SetOk.calls k _ _ l0 true _ ?side1 ?side2 A2.out).mono ?_); (case side1 => repeat (first | exact HR0.out | (with_reducible refine Kd.C_alloc ?_ _) | (with_reducible refine Kd.C_drewN ?_ _) | (with_reducible refine Kd.C_drew ?_))); (case side2 => exact HC0.out); rintro e w4 ⟨rfl, hb⟩; have n0_ := aM (below_step (by repeat (first | (with_reducible first | exact HB.out | apply aW1 | apply aW2 | apply aW3) | exact HB.out)) hb); clear HB; have HB := n0_; clear n0_; (try clear hb); (try clear hb2); (try clear hk); (try clear hi)))
  repeat (go_quiet (first | (go_at_call 76; (with_reducible refine (spec_SetOk.calls k _ _ l0 true _ ?side1 ?side2 A2.out).mono ?_); (case side1 => repeat (first | exact HR0.out | (with_reducible refine Kd.C_alloc ?_ _) | (with_reducible refine Kd.C_drewN ?_ _) | (with_reducible refine Kd.C_drew ?_))); (case side2 => exact HC0.out); rintro e w4 ⟨rfl, hb⟩; have n0_ := aM (below_step (by repeat (first | (with_reducible first | exact HB.out | apply aW1 | apply aW2 | apply aW3) | exact HB.out)) hb); clear HB; have HB := n0_; clear n0_; (try clear hb); (try clear hb2); (try clear hk); (try clear hi))); try go_wp2_with (first | (go_at_call 76; (with_reducible refine (spec_SetOk.calls k _ _ l0 true _ ?side1 ?side2 A2.out).mono ?_); (case side1 => repeat (first | exact HR0.out | (with_reducible refine Kd.C_alloc ?_ _) | (with_reducible refine Kd.C_drewN ?_ _) | (with_reducible refine Kd.C_drew ?_))); (case side2 => exact HC0.out); rintro e w4 ⟨rfl, hb⟩; have n0_ := aM (below_step (by repeat (first | (with_reducible first | exact HB.out | apply aW1 | apply aW2 | apply aW3) | exact HB.out)) hb); clear HB; have HB := n0_; clear n0_; (try clear hb); (try clear hb2); (try clear hk); (try clear hi))))
  go_loopg [3, 4] k (fun kq v3 v4 w' => ∃ (x3_1 : ByteArray) (x4_1 : Int), v3 = .string x3_1 ∧ v4 = .int .i64 x4_1 ∧ Aside0 (spec_SetText.l0 kq l0 x3_1 x4_1 = some r) ∧ Aside0 (kq ≤ k) ∧ Aside0 (Below w.heap.size w w'))
  case atStart => exact ⟨((⟨#[123]⟩ : ByteArray)), (0), (by first | rfl | (simp; done) | (simp [*]; done)), (by first | rfl | (simp; done) | (simp [*]; done)), H', ⟨Nat.le_refl _⟩, ⟨by repeat (first | (with_reducible first | exact HB.out | apply aW1 | apply aW2 | apply aW3) | exact HB.out)⟩⟩
  case round =>
   clear H'
   try clear c1
   try clear p2
   try clear c3
   obtain ⟨x3_1, x4_1, rfl, rfl, HA, HK1, HB⟩ := hrel
   cases gk with
   | zero => exact absurd HA.out (by simp [spec_SetText.l0])
   | succ k1 =>
    have H := HA.out
    clear HA
    simp only [spec_SetText.l0] at H
    by_cases c5 : x4_1 < (l0.length : Int)
    ·rw [if_pos c5] at H; have c5b0 : decide (x4_1 < (l0.length : Int)) = true := decide_eq_true c5; clear c5
     by_cases c6 : x4_1 > 0
     ·rw [if_pos c6] at H; have c6b0 : decide (0 < x4_1) = true := decide_eq_true c6; clear c6
      by_cases c7 : x3_1.size + 2 ≤ 9223372036854775807
      ·rw [if_pos c7] at H
       have c7b0 := eq_true c7
       have c7b1 : decide (x3_1.size + 2 ≤ 9223372036854775807) = true := decide_eq_true c7
       try have c7b2 : (9223372036854775807 < x3_1.size + 2) = False := eq_false (Nat.not_lt.2 c7)
       by_cases c8 : 0 ≤ x4_1
       ·rw [if_pos c8] at H; have c8b0 : decide (0 ≤ x4_1) = true := decide_eq_true c8; clear c8
        by_cases c9 : (x3_1 ++ (⟨#[44, 32]⟩ : ByteArray)).size + ((rd_T86 l0 x4_1).f0).size ≤ 9223372036854775807
        ·rw [if_pos c9] at H
         have c9b0 := eq_true c9
         have c9b1 : decide ((x3_1 ++ (⟨#[44, 32]⟩ : ByteArray)).size + ((rd_T86 l0 x4_1).f0).size ≤ 9223372036854775807) = true := decide_eq_true c9
         try have c9b2 : (9223372036854775807 < (x3_1 ++ (⟨#[44, 32]⟩ : ByteArray)).size + ((rd_T86 l0 x4_1).f0).size) = False := eq_false (Nat.not_lt.2 c9)
         try (have c9b3 := c9b2; simp only [ByteArray.size_append', ByteArray.size_mk', List.size_toArray, List.length_cons, List.length_nil, Nat.reduceAdd, Nat.zero_add] at c9b3)
         by_cases c10 : ((x3_1 ++ (⟨#[44, 32]⟩ : ByteArray)) ++ ((rd_T86 l0 x4_1).f0)).size + 2 ≤ 9223372036854775807
         ·rw [if_pos c10] at H
          have c10b0 := eq_true c10
          have c10b1 : decide (((x3_1 ++ (⟨#[44, 32]⟩ : ByteArray)) ++ ((rd_T86 l0 x4_1).f0)).size + 2 ≤ 9223372036854775807) = true := decide_eq_true c10
          try have c10b2 : (9223372036854775807 < ((x3_1 ++ (⟨#[44, 32]⟩ : ByteArray)) ++ ((rd_T86 l0 x4_1).f0)).size + 2) = False := eq_false (Nat.not_lt.2 c10)
          try (have c10b3 := c10b2; simp only [ByteArray.size_append', ByteArray.size_mk', List.size_toArray, List.length_cons, List.length_nil, Nat.reduceAdd, Nat.zero_add] at c10b3)
          by_cases c11 : (((x3_1 ++ (⟨#[44, 32]⟩ : ByteArray)) ++ ((rd_T86 l0 x4_1).f0)) ++ (⟨#[61, 34]⟩ : ByteArray)).size + ((rd_T86 l0 x4_1).f1).size ≤ 9223372036854775807
          ·rw [if_pos c11] at H
           have c11b0 := eq_true c11
           have c11b1 : decide ((((x3_1 ++ (⟨#[44, 32]⟩ : ByteArray)) ++ ((rd_T86 l0 x4_1).f0)) ++ (⟨#[61, 34]⟩ : ByteArray)).size + ((rd_T86 l0 x4_1).f1).size ≤ 9223372036854775807) = true := decide_eq_true c11
           try have c11b2 : (9223372036854775807 < (((x3_1 ++ (⟨#[44, 32]⟩ : ByteArray)) ++ ((rd_T86 l0 x4_1).f0)) ++ (⟨#[61, 34]⟩ : ByteArray)).size + ((rd_T86 l0 x4_1).f1).size) = False := eq_false (Nat.not_lt.2 c11)
           try (have c11b3 := c11b2; simp only [ByteArray.size_append', ByteArray.size_mk', List.size_toArray, List.length_cons, List.length_nil, Nat.reduceAdd, Nat.zero_add] at c11b3)
           by_cases c12 : ((((x3_1 ++ (⟨#[44, 32]⟩ : ByteArray)) ++ ((rd_T86 l0 x4_1).f0)) ++ (⟨#[61, 34]⟩ : ByteArray)) ++ ((rd_T86 l0 x4_1).f1)).size + 1 ≤ 9223372036854775807
           ·rw [if_pos c12] at H
            have c12b0 := eq_true c12
            have c12b1 : decide (((((x3_1 ++ (⟨#[44, 32]⟩ : ByteArray)) ++ ((rd_T86 l0 x4_1).f0)) ++ (⟨#[61, 34]⟩ : ByteArray)) ++ ((rd_T86 l0 x4_1).f1)).size + 1 ≤ 9223372036854775807) = true := decide_eq_true c12
            try have c12b2 : (9223372036854775807 < ((((x3_1 ++ (⟨#[44, 32]⟩ : ByteArray)) ++ ((rd_T86 l0 x4_1).f0)) ++ (⟨#[61, 34]⟩ : ByteArray)) ++ ((rd_T86 l0 x4_1).f1)).size + 1) = False := eq_false (Nat.not_lt.2 c12)
            try (have c12b3 := c12b2; simp only [ByteArray.size_append', ByteArray.size_mk', List.size_toArray, List.length_cons, List.length_nil, Nat.reduceAdd, Nat.zero_add] at c12b3)
            have H' := aM H
            clear H
            have p286 : 0 ≤ (x4_1 : Int) := of_decide_eq_true (by first | (with_reducible assumption) | assumption)
            have q286 : x4_1 < (l0.length : Int) := of_decide_eq_true (by first | (with_reducible assumption) | assumption)
            obtain ⟨ad286, e286, hx286_0, hx286_1⟩ := at_T86 HR0.out x4_1 p286 q286
            cases e286
            replace hx286_0 := (HB.out.cell (World.block_lt_of_cell? w _ hx286_0)).trans hx286_0
            replace hx286_1 := (HB.out.cell (World.block_lt_of_cell? w _ hx286_1)).trans hx286_1
            replace p286 := eq_true p286
            replace q286 := eq_true q286
            have p287 : 0 ≤ (x4_1 : Int) := of_decide_eq_true (by first | (with_reducible assumption) | assumption)
            have q287 : x4_1 < (l0.length : Int) := of_decide_eq_true (by first | (with_reducible assumption) | assumption)
            obtain ⟨ad287, e287, hx287_0, hx287_1⟩ := at_T86 HR0.out x4_1 p287 q287
            obtain rfl : ad286 = ad287 := (by injection e287)
            replace hx287_0 := (HB.out.cell (World.block_lt_of_cell? w _ hx287_0)).trans hx287_0
            replace hx287_1 := (HB.out.cell (World.block_lt_of_cell? w _ hx287_1)).trans hx287_1
            replace p287 := eq_true p287
            replace q287 := eq_true q287
            go_wp2
            repeat (go_quiet (fail); try go_wp2)
            go_roundg k1
            case measure => have := HK1.out; omega
            case rel => exact ⟨(((((x3_1 ++ (⟨#[44, 32]⟩ : ByteArray)) ++ ((rd_T86 l0 x4_1).f0)) ++ (⟨#[61, 34]⟩ : ByteArray)) ++ ((rd_T86 l0 x4_1).f1)) ++ (⟨#[34]⟩ : ByteArray)), (wrap64 (x4_1 + 1)), (by first | rfl | (simp; done) | (simp [*]; done)), (by first | rfl | (simp; done) | (simp [*]; done)), H', ⟨by have := HK1.out; omega⟩, ⟨by repeat (first | (with_reducible first | exact HB.out | apply aW1 | apply aW2 | apply aW3) | exact HB.out)⟩⟩
           ·rw [if_neg c12] at H
            exact absurd H (by simp)
          ·rw [if_neg c11] at H
           exact absurd H (by simp)
         ·rw [if_neg c10] at H
          exact absurd H (by simp)
        ·rw [if_neg c9] at H
         exact absurd H (by simp)
       ·rw [if_neg c8] at H
        exact absurd H (by simp)
      ·rw [if_neg c7] at H
       exact absurd H (by simp)
     ·rw [if_neg c6] at H; have c6b0 : decide (0 < x4_1) = false := decide_eq_false c6; clear c6
      by_cases c13 : 0 ≤ x4_1
      ·rw [if_pos c13] at H; have c13b0 : decide (0 ≤ x4_1) = true := decide_eq_true c13; clear c13
       by_cases c14 : x3_1.size + ((rd_T86 l0 x4_1).f0).size ≤ 9223372036854775807
       ·rw [if_pos c14] at H
        have c14b0 := eq_true c14
        have c14b1 : decide (x3_1.size + ((rd_T86 l0 x4_1).f0).size ≤ 9223372036854775807) = true := decide_eq_true c14
        try have c14b2 : (9223372036854775807 < x3_1.size + ((rd_T86 l0 x4_1).f0).size) = False := eq_false (Nat.not_lt.2 c14)
        by_cases c15 : (x3_1 ++ ((rd_T86 l0 x4_1).f0)).size + 2 ≤ 9223372036854775807
        ·rw [if_pos c15] at H
         have c15b0 := eq_true c15
         have c15b1 : decide ((x3_1 ++ ((rd_T86 l0 x4_1).f0)).size + 2 ≤ 9223372036854775807) = true := decide_eq_true c15
         try have c15b2 : (9223372036854775807 < (x3_1 ++ ((rd_T86 l0 x4_1).f0)).size + 2) = False := eq_false (Nat.not_lt.2 c15)
         try (have c15b3 := c15b2; simp only [ByteArray.size_append', ByteArray.size_mk', List.size_toArray, List.length_cons, List.length_nil, Nat.reduceAdd, Nat.zero_add] at c15b3)
         by_cases c16 : ((x3_1 ++ ((rd_T86 l0 x4_1).f0)) ++ (⟨#[61, 34]⟩ : ByteArray)).size + ((rd_T86 l0 x4_1).f1).size ≤ 9223372036854775807
         ·rw [if_pos c16] at H
          have c16b0 := eq_true c16
          have c16b1 : decide (((x3_1 ++ ((rd_T86 l0 x4_1).f0)) ++ (⟨#[61, 34]⟩ : ByteArray)).size + ((rd_T86 l0 x4_1).f1).size ≤ 9223372036854775807) = true := decide_eq_true c16
          try have c16b2 : (9223372036854775807 < ((x3_1 ++ ((rd_T86 l0 x4_1).f0)) ++ (⟨#[61, 34]⟩ : ByteArray)).size + ((rd_T86 l0 x4_1).f1).size) = False := eq_false (Nat.not_lt.2 c16)
          try (have c16b3 := c16b2; simp only [ByteArray.size_append', ByteArray.size_mk', List.size_toArray, List.length_cons, List.length_nil, Nat.reduceAdd, Nat.zero_add] at c16b3)
          by_cases c17 : (((x3_1 ++ ((rd_T86 l0 x4_1).f0)) ++ (⟨#[61, 34]⟩ : ByteArray)) ++ ((rd_T86 l0 x4_1).f1)).size + 1 ≤ 9223372036854775807
          ·rw [if_pos c17] at H
           have c17b0 := eq_true c17
           have c17b1 : decide ((((x3_1 ++ ((rd_T86 l0 x4_1).f0)) ++ (⟨#[61, 34]⟩ : ByteArray)) ++ ((rd_T86 l0 x4_1).f1)).size + 1 ≤ 9223372036854775807) = true := decide_eq_true c17
           try have c17b2 : (9223372036854775807 < (((x3_1 ++ ((rd_T86 l0 x4_1).f0)) ++ (⟨#[61, 34]⟩ : ByteArray)) ++ ((rd_T86 l0 x4_1).f1)).size + 1) = False := eq_false (Nat.not_lt.2 c17)
           try (have c17b3 := c17b2; simp only [ByteArray.size_append', ByteArray.size_mk', List.size_toArray, List.length_cons, List.length_nil, Nat.reduceAdd, Nat.zero_add] at c17b3)
           have H' := aM H
           clear H
           have p288 : 0 ≤ (x4_1 : Int) := of_decide_eq_true (by first | (with_reducible assumption) | assumption)
           have q288 : x4_1 < (l0.length : Int) := of_decide_eq_true (by first | (with_reducible assumption) | assumption)
           obtain ⟨ad288, e288, hx288_0, hx288_1⟩ := at_T86 HR0.out x4_1 p288 q288
           cases e288
           replace hx288_0 := (HB.out.cell (World.block_lt_of_cell? w _ hx288_0)).trans hx288_0
           replace hx288_1 := (HB.out.cell (World.block_lt_of_cell? w _ hx288_1)).trans hx288_1
           replace p288 := eq_true p288
           replace q288 := eq_true q288
           have p289 : 0 ≤ (x4_1 : Int) := of_decide_eq_true (by first | (with_reducible assumption) | assumption)
           have q289 : x4_1 < (l0.length : Int) := of_decide_eq_true (by first | (with_reducible assumption) | assumption)
           obtain ⟨ad289, e289, hx289_0, hx289_1⟩ := at_T86 HR0.out x4_1 p289 q289
           obtain rfl : ad288 = ad289 := (by injection e289)
           replace hx289_0 := (HB.out.cell (World.block_lt_of_cell? w _ hx289_0)).trans hx289_0
           replace hx289_1 := (HB.out.cell (World.block_lt_of_cell? w _ hx289_1)).trans hx289_1
           replace p289 := eq_true p289
           replace q289 := eq_true q289
           go_wp2
           repeat (go_quiet (fail); try go_wp2)
           go_roundg k1
           case measure => have := HK1.out; omega
           case rel => exact ⟨((((x3_1 ++ ((rd_T86 l0 x4_1).f0)) ++ (⟨#[61, 34]⟩ : ByteArray)) ++ ((rd_T86 l0 x4_1).f1)) ++ (⟨#[34]⟩ : ByteArray)), (wrap64 (x4_1 + 1)), (by first | rfl | (simp; done) | (simp [*]; done)), (by first | rfl | (simp; done) | (simp [*]; done)), H', ⟨by have := HK1.out; omega⟩, ⟨by repeat (first | (with_reducible first | exact HB.out | apply aW1 | apply aW2 | apply aW3) | exact HB.out)⟩⟩
          ·rw [if_neg c17] at H
           exact absurd H (by simp)
         ·rw [if_neg c16] at H
          exact absurd H (by simp)
        ·rw [if_neg c15] at H
         exact absurd H (by simp)
       ·rw [if_neg c14] at H
        exact absurd H (by simp)
      ·rw [if_neg c13] at H
       exact absurd H (by simp)
    ·rw [if_neg c5] at H; have c5b0 : decide (x4_1 < (l0.length : Int)) = false := decide_eq_false c5; clear c5
     by_cases c18 : x3_1.size + 1 ≤ 9223372036854775807
     ·rw [if_pos c18] at H
      have c18b0 := eq_true c18
      have c18b1 : decide (x3_1.size + 1 ≤ 9223372036854775807) = true := decide_eq_true c18
      try have c18b2 : (9223372036854775807 < x3_1.size + 1) = False := eq_false (Nat.not_lt.2 c18)
      obtain rfl := Option.some.inj H
      go_wp2
      repeat (go_quiet (fail); try go_wp2)
      go_ret
      exact ⟨by first | rfl | (simp [errW_none, errW_some] <;> rfl) | (simp [*, errW_none, errW_some] <;> rfl), by repeat (first | (with_reducible first | exact HB.out | apply aW1 | apply aW2 | apply aW3) | exact HB.out)⟩
     ·rw [if_neg c18] at H
      exact absurd H (by simp)
 ·replace c3 := Bool.eq_false_iff.mpr c3
  subst c3
  have H1 : (some (⟨#[]⟩ : ByteArray)) = some r := by rw [if_neg (show ¬ (false = true) by decide)] at H; exact H
  clear H
  have H := H1
  clear H1
  obtain rfl := Option.some.inj H
  go_enter Try.func18, Try.ntmps18
  go_wp2_with (first | (go_at_call 76; (with_reducible refine (spec_SetOk.calls k _ _ l0 false _ ?side1 ?side2 A2.out).mono ?_); (case side1 => repeat (first | exact HR0.out | (with_reducible refine Kd.C_alloc ?_ _) | (with_reducible refine Kd.C_drewN ?_ _) | (with_reducible refine Kd.C_drew ?_))); (case side2 => exact HC0.out); rintro e w19 ⟨rfl, hb⟩; have n0_ := aM (below_step (by repeat (first | (with_reducible first | exact HB.out | apply aW1 | apply aW2 | apply aW3) | exact HB.out)) hb); clear HB; have HB := n0_; clear n0_; (try clear hb); (try clear hb2); (try clear hk); (try clear hi)))
  repeat (go_quiet (first | (go_at_call 76; (with_reducible refine (spec_SetOk.calls k _ _ l0 false _ ?side1 ?side2 A2.out).mono ?_); (case side1 => repeat (first | exact HR0.out | (with_reducible refine Kd.C_alloc ?_ _) | (with_reducible refine Kd.C_drewN ?_ _) | (with_reducible refine Kd.C_drew ?_))); (case side2 => exact HC0.out); rintro e w19 ⟨rfl, hb⟩; have n0_ := aM (below_step (by repeat (first | (with_reducible first | exact HB.out | apply aW1 | apply aW2 | apply aW3) | exact HB.out)) hb); clear HB; have HB := n0_; clear n0_; (try clear hb); (try clear hb2); (try clear hk); (try clear hi))); try go_wp2_with (first | (go_at_call 76; (with_reducible refine (spec_SetOk.calls k _ _ l0 false _ ?side1 ?side2 A2.out).mono ?_); (case side1 => repeat (first | exact HR0.out | (with_reducible refine Kd.C_alloc ?_ _) | (with_reducible refine Kd.C_drewN ?_ _) | (with_reducible refine Kd.C_drew ?_))); (case side2 => exact HC0.out); rintro e w19 ⟨rfl, hb⟩; have n0_ := aM (below_step (by repeat (first | (with_reducible first | exact HB.out | apply aW1 | apply aW2 | apply aW3) | exact HB.out)) hb); clear HB; have HB := n0_; clear n0_; (try clear hb); (try clear hb2); (try clear hk); (try clear hi))))
  go_ret
  exact ⟨by first | rfl | (simp [errW_none, errW_some] <;> rfl) | (simp [*, errW_none, errW_some] <;> rfl), by repeat (first | (with_reducible first | exact HB.out | apply aW1 | apply aW2 | apply aW3) | exact HB.out)⟩

/-! ### spec_l1Int: function 97 -/
def spec_l1Int.f (s0_0 : List Int) (s0_1 : Int) (s0_2 : Int) (l1 : List Int) : Option (Int × Int × Int) := (spec_l1Below.f s0_0 s0_1 s0_2 (l1.length : Int)).bind fun bt290 => (if 0 ≤ bt290.1 then (if bt290.1 < (l1.length : Int) then (some (rd l1 bt290.1, bt290.2.1, bt290.2.2)) else (none)) else (none))
set_option maxHeartbeats 8000000 in
set_option maxRecDepth 100000 in
theorem spec_l1Int.calls (g : Nat) (s0_0 : List Int) (s0_1 : Int) (s0_2 : Int) (A1 : Option Addr) (c1 : Nat) (l1 : List Int) (r1 : Int) (r2 : Int) (r3 : Int) (w0 w : World) (hI : IsS132 w0 w g s0_0 s0_1 s0_2) (hB : Below w0.heap.size w0 w) (hr1 : Kd.C (Kd.int .i64) w A1 l1.length l1) (hc1 : l1.length ≤ c1) (hf1 : ∀ ad, A1 = some ad → 0 < l1.length → ad.block ≠ g) (h : spec_l1Int.f s0_0 s0_1 s0_2 l1 = some (r1, r2, r3)) :
  Calls Try.prog 97 #[.pointer (some ⟨g, 0, none⟩), .slice A1 l1.length c1] w fun e w' => e = .returned (.int .i64 r1) ∧ IsS132 w0 w' g s0_0 r2 r3 ∧ Below w0.heap.size w0 w' ∧ KeepBut w w' g none := by
 have HR1 := aM hr1
 have HC1 := aM hc1
 clear hr1 hc1
 have HI0 := aM hI
 have HK := aM (KeepBut.refl w g none)
 have HL := aM hB.size
 clear hI
 have HW0 := aM hB.size
 have HB := aM hB
 clear hB
 have H : ((spec_l1Below.f s0_0 s0_1 s0_2 (l1.length : Int)).bind fun bt290 => (if 0 ≤ bt290.1 then (if bt290.1 < (l1.length : Int) then (some (rd l1 bt290.1, bt290.2.1, bt290.2.2)) else (none)) else (none))) = some (r1, r2, r3) := h
 clear h; replace H := Option.bind_eq_some_iff.mp H
 obtain ⟨⟨t290, t291, t292⟩, A30, H⟩ := H
 try dsimp only at H
 have A3 := aM A30
 clear A30
 by_cases c4 : 0 ≤ t290
 ·rw [if_pos c4] at H; have c4b0 : decide (0 ≤ t290) = true := decide_eq_true c4; clear c4
  by_cases c5 : t290 < (l1.length : Int)
  ·rw [if_pos c5] at H; have c5b0 : decide (t290 < (l1.length : Int)) = true := decide_eq_true c5; clear c5
   simp only [Option.some.injEq, Prod.mk.injEq] at H
   obtain ⟨rfl, rfl, rfl⟩ := H
   go_enter Try.func97, Try.ntmps97
   go_wp2_with (first | ((with_reducible refine gate_callee (f := 89) rfl ?_); refine goesL_ (some 9) rfl rfl Try.func89 (by kernel_rfl) rfl #[.pointer (some ⟨g, 0, none⟩), .int .i64 (l1.length : Int)] rfl (by (try simp only [List.map_toArray, List.map_cons, List.map_nil]); first | done | rfl | (simp only [List.length_drop, List.length_take]; rfl)) ?_; (with_reducible refine (spec_l1Below.calls g s0_0 s0_1 s0_2 (l1.length : Int) t290 t291 t292 w0 _ ?side1 ?side2 A3.out).mono ?_); (case side1 => repeat (first | (with_reducible first | exact HI0.out | apply IsS132.alloc | apply IsS132.drewN | apply IsS132.drew | apply IsS132.set_1 | apply IsS132.set_2) | exact HI0.out)); (case side2 => repeat (first | (with_reducible first | exact HB.out | apply aW1 | apply aW2 | apply aW3 | refine below_set ?_ (IsS132.ge HI0.out)) | exact HB.out)); rintro e w6 ⟨rfl, hi, hb, hk⟩; refine ⟨_, rfl, ?_⟩; have n0_ := aM (KeepBut.trans (by repeat (first | (with_reducible first | exact HK.out | apply KeepBut.set_ | apply keep_drewN | apply keep_drew | apply keep_alloc) | exact HK.out)) hk (.inl rfl)); have n1_ := aM (hb); have n2_ := aM (hi); clear HK HB HI0; have HK := n0_; have HB := n1_; have HI0 := n2_; clear n0_ n1_ n2_; (try clear hb); (try clear hb2); (try clear hk); (try clear hi); have p293 : 0 ≤ (t290 : Int) := of_decide_eq_true (by first | (with_reducible assumption) | assumption); have q293 : t290 < (l1.length : Int) := of_decide_eq_true (by first | (with_reducible assumption) | assumption); obtain ⟨ad293, e293, hx293_0⟩ := Kd.at_int HR1.out t290 p293 q293; cases e293; replace hx293_0 := keep_cell HK.out hx293_0 (by first | (rw [add_block]; exact hf1 _ rfl (by omega)) | exact hf1 _ rfl (by omega) | exact hf1 ad293 rfl (by omega)); replace p293 := eq_true p293; replace q293 := eq_true q293))
   go_ret
   exact ⟨by first | rfl | (simp [errW_none, errW_some] <;> rfl) | (simp [*, errW_none, errW_some] <;> rfl), by repeat (first | (with_reducible first | exact HI0.out | apply IsS132.alloc | apply IsS132.drewN | apply IsS132.drew | apply IsS132.set_1 | apply IsS132.set_2) | exact HI0.out), by repeat (first | (with_reducible first | exact HB.out | apply aW1 | apply aW2 | apply aW3 | refine below_set ?_ (IsS132.ge HI0.out)) | exact HB.out), by repeat (first | (with_reducible first | exact HK.out | apply KeepBut.set_ | apply keep_drewN | apply keep_drew | apply keep_alloc) | exact HK.out)⟩
  ·rw [if_neg c5] at H
   exact absurd H (by simp)
 ·rw [if_neg c4] at H
  exact absurd H (by simp)

/-! ### spec_l3Bend: function 86 (by hand) -/
theorem add0_ (b j : Nat) : (⟨b, 0, none⟩ : Addr).add j = ⟨b, j, none⟩ := by unfold Addr.add; split <;> simp_all
theorem markCell_ {W : World} {b e : Nat} {C : Array Value} {fr : Nat × Nat} (h : W.heap[b]? = some (.cells C e fr)) (j : Nat) : W.cell? ⟨b, j, none⟩ = C[j]? := by
 unfold World.cell?
 rw [h]
 simp
theorem markFree_ {W : World} {b e : Nat} {C : Array Value} (h : W.heap[b]? = some (.cells C e (C.size, C.size + 1))) (j : Nat) (hj : j < C.size) : W.frozen? ⟨b, j, none⟩ = false := by
 unfold World.frozen?
 rw [h]
 simp
 omega
theorem below_setCells_ {a : World} (b : Nat) (hb : a.heap.size ≤ b) : ∀ (vs : List Value) (o : Nat) {w : World}, Below a.heap.size a w → Below a.heap.size a (w.setCells b o vs)
 | [], _, _, h => h
 | _ :: r, o, _, h => below_setCells_ b hb r (o + 1) (below_set h hb)
theorem heap_setCells_ (b k : Nat) (hk : k ≠ b) : ∀ (vs : List Value) (o : Nat) (w : World), (w.setCells b o vs).heap[k]? = w.heap[k]?
 | [], _, _ => rfl
 | v :: r, o, w => (heap_setCells_ b k hk r (o + 1) _).trans (Below.heap_setCell w ⟨b, o, none⟩ v k hk)
theorem size_setCells_ (b : Nat) : ∀ (vs : List Value) (o : Nat) (w : World), (w.setCells b o vs).heap.size = w.heap.size
 | [], _, _ => rfl
 | v :: r, o, w => (size_setCells_ b r (o + 1) _).trans (by simp [World.setCell])
/-- A text with one byte written, or left out. -/
def bendSet (s : ByteArray) (i : Nat) (x : Int) : ByteArray := ⟨(s.data.toList.set i (UInt8.ofNat (x % 256).toNat)).toArray⟩
def bendCut (s : ByteArray) (i : Nat) : ByteArray := ⟨(s.data.toList.take i ++ s.data.toList.drop (i + 1)).toArray⟩
def spec_l3Bend.f (s0_0 : List Int) (s0_1 : Int) (s0_2 : Int) (a1 : ByteArray) : Option (ByteArray × Int × Int) :=
 if a1.size = 0 then some (a1, s0_1, s0_2) else (spec_l1Below.f s0_0 s0_1 s0_2 (a1.size : Int)).bind fun i => if 0 ≤ i.1 ∧ i.1 < (a1.size : Int) ∧ a1.size ≤ 4611686018427387904 then (spec_l1Below.f s0_0 i.2.1 i.2.2 5).bind fun d => if d.1 = 0 then (spec_l1Int.f s0_0 d.2.1 d.2.2 [34, 61, 44, 32, 97, 123, 125, 200]).bind fun x => some (bendSet a1 i.1.toNat x.1, x.2.1, x.2.2) else if d.1 = 1 then some (bendCut a1 i.1.toNat, d.2.1, d.2.2) else some (a1, d.2.1, d.2.2) else none
set_option maxHeartbeats 16000000 in
set_option maxRecDepth 100000 in
theorem spec_l3Bend.calls (g : Nat) (s0_0 : List Int) (s0_1 : Int) (s0_2 : Int) (a1 : ByteArray) (r1 : ByteArray) (r2 : Int) (r3 : Int) (w0 w : World) (hI : IsS132 w0 w g s0_0 s0_1 s0_2) (hB : Below w0.heap.size w0 w) (h : spec_l3Bend.f s0_0 s0_1 s0_2 a1 = some (r1, r2, r3)) :
  Calls Try.prog 86 #[.pointer (some ⟨g, 0, none⟩), .string a1] w fun e w' => e = .returned (.string r1) ∧ IsS132 w0 w' g s0_0 r2 r3 ∧ Below w0.heap.size w0 w' ∧ KeepBut w w' g none := by
 have HW0 := aM hB.size
 have hcv := fun (V : World) (s : ByteArray) => run_bytes_of_string (P := Try.prog) V 9 22 5 s Try.underlying9 Try.underlying22 Try.underlying5
 have HI := aM hI
 have HB := aM hB
 clear hI hB
 unfold spec_l3Bend.f at h
 by_cases c0 : a1.size = 0
 ·rw [if_pos c0] at h
  simp only [Option.some.injEq, Prod.mk.injEq] at h
  obtain ⟨rfl, rfl, rfl⟩ := h
  have c0b : ((a1.size : Int) == 0) = true := by rw [c0]; rfl
  go_enter Try.func86, Try.ntmps86
  go_wp2
  go_ret
  have bel := fun o : Obj => below_alloc (below_drew (Below.refl w.heap.size w)) o
  exact ⟨rfl, IsS132.below HI.out (bel _), below_step HB.out (bel _), (bel _).size, fun i hi _ _ => (bel _).block i hi⟩
 ·rw [if_neg c0] at h
  obtain ⟨⟨i1, i2, i3⟩, hi0, h⟩ := Option.bind_eq_some_iff.mp h
  dsimp only at hi0 h
  by_cases ci : 0 ≤ i1 ∧ i1 < (a1.size : Int) ∧ a1.size ≤ 4611686018427387904
  ·rw [if_pos ci] at h
   obtain ⟨⟨d1, d2, d3⟩, hd0, h⟩ := Option.bind_eq_some_iff.mp h
   dsimp only at hd0 h
   have AI := aM hi0
   have AD := aM hd0
   have H := aM h
   have CI := aM ci
   clear hi0 hd0 h ci
   have c0b : ((a1.size : Int) == 0) = false := by rw [beq_eq_false_iff_ne]; omega
   go_enter Try.func86, Try.ntmps86
   go_upto_region 2 with (fail)
   have bel := below_drew (below_alloc (Below.refl w.heap.size w) (.cells (bytesRow a1 (grownCap w a1.size 0 5)) 5 ((bytesRow a1 (grownCap w a1.size 0 5)).size, (bytesRow a1 (grownCap w a1.size 0 5)).size + 1)))
   have HI1 := aM (IsS132.below HI.out bel)
   have HB1 := aM (below_step HB.out bel)
   have HK1 := aM (show KeepBut w _ g none from ⟨bel.size, fun i hi _ _ => bel.block i hi⟩)
   have HBK := aM (show ((w.alloc (.cells (bytesRow a1 (grownCap w a1.size 0 5)) 5 ((bytesRow a1 (grownCap w a1.size 0 5)).size, (bytesRow a1 (grownCap w a1.size 0 5)).size + 1))).drew).heap[w.heap.size]? = some (.cells (bytesRow a1 (grownCap w a1.size 0 5)) 5 ((bytesRow a1 (grownCap w a1.size 0 5)).size, (bytesRow a1 (grownCap w a1.size 0 5)).size + 1)) by simp [World.alloc, World.drew, -World.alloc_eq, -World.drew_eq])
   have HCP := aM (grownCap_ge w a1.size 0 5)
   have HGB := aM (Nat.le_refl w.heap.size)
   have HWB := HW0
   clear bel HI HB
   have HC := aM (fun (j : Nat) (hj : j < a1.data.size) => bytesRow_at a1 (grownCap w a1.size 0 5) j hj)
   have HCS := aM (show a1.size ≤ (bytesRow a1 (grownCap w a1.size 0 5)).size by unfold bytesRow; rw [Array.size_append, Array.size_map]; exact Nat.le_add_right _ _)
   generalize hW1 : (w.alloc (.cells (bytesRow a1 (grownCap w a1.size 0 5)) 5 ((bytesRow a1 (grownCap w a1.size 0 5)).size, (bytesRow a1 (grownCap w a1.size 0 5)).size + 1))).drew = w1 at HI1 HB1 HK1 HBK ⊢
   clear hW1
   generalize bytesRow a1 (grownCap w a1.size 0 5) = C at HBK HC HCS
   generalize grownCap w a1.size 0 5 = cp at HCP ⊢
   obtain ⟨b, hb⟩ : ∃ b, b = w.heap.size := ⟨_, rfl⟩
   rw [← hb] at HBK ⊢
   have HGB1 := aM (Nat.le_of_eq hb.symm)
   clear hb HGB hcv
   have HBW1 := aM (show w0.heap.size ≤ b from by have := HW0.out; have := HGB1.out; omega)
   go_upto_region 5 with (((with_reducible refine gate_callee (f := 89) rfl ?_); refine goesL_ (some 16) rfl rfl Try.func89 (by kernel_rfl) rfl #[.pointer (some ⟨g, 0, none⟩), .int .i64 (a1.size : Int)] rfl (by (try simp only [List.map_toArray, List.map_cons, List.map_nil]); first | done | rfl) ?_; refine (spec_l1Below.calls g s0_0 s0_1 s0_2 (a1.size : Int) i1 i2 i3 w0 _ HI1.out HB1.out AI.out).mono ?_; rintro e w2 ⟨rfl, hi, hb, hk⟩; refine ⟨_, rfl, ?_⟩; have HBK2 := aM ((hk.2 b (blk_lt HBK.out) (Ne.symm (IsS132.ne_blk HI1.out HBK.out (by decide))) (by simp)).trans HBK.out); have HI2 := aM hi; have HB2 := aM hb; have HK2 := aM (KeepBut.trans HK1.out hk (.inl rfl)); clear hi hb hk HI1 HB1 HK1 HBK))
   go_upto_region 6 with (((with_reducible refine gate_callee (f := 89) rfl ?_); refine goesL_ (some 18) rfl rfl Try.func89 (by kernel_rfl) rfl #[.pointer (some ⟨g, 0, none⟩), .int .i64 5] rfl (by (try simp only [List.map_toArray, List.map_cons, List.map_nil]); first | done | rfl) ?_; refine (spec_l1Below.calls g s0_0 i2 i3 5 d1 d2 d3 w0 _ HI2.out HB2.out AD.out).mono ?_; rintro e w3 ⟨rfl, hi, hb, hk⟩; refine ⟨_, rfl, ?_⟩; have HBK3 := aM ((hk.2 b (blk_lt HBK2.out) (Ne.symm (IsS132.ne_blk HI2.out HBK2.out (by decide))) (by simp)).trans HBK2.out); have HI3 := aM hi; have HB3 := aM hb; have HK3 := aM (KeepBut.trans HK2.out hk (.inl rfl)); clear hi hb hk HI2 HB2 HK2 HBK2))
   have hnb := IsS132.ne_blk HI3.out HBK3.out (by decide)
   have NB := aM hnb
   clear hnb
   have HR := H.out
   clear H h
   by_cases e0 : d1 = 0
   ·rw [if_pos e0] at HR
    obtain ⟨⟨x1, x2, x3⟩, hx0, HR⟩ := Option.bind_eq_some_iff.mp HR
    dsimp only at hx0 HR
    simp only [Option.some.injEq, Prod.mk.injEq] at HR
    obtain ⟨rfl, rfl, rfl⟩ := HR
    obtain ⟨yl, hyl⟩ : ∃ y_ : List Int, y_ = [34, 61, 44, 32, 97, 123, 125, 200] := ⟨_, rfl⟩
    rw [← hyl] at hx0
    have AX := aM hx0
    have NYL := aM hyl
    clear hx0 hyl
    have e0b : (d1 == 0) = true := by rw [e0]; rfl
    have p0t : (0 ≤ i1) = True := eq_true CI.out.1
    have q0t : (i1 < (a1.size : Int)) = True := eq_true CI.out.2.1
    have hin : i1.toNat < a1.size := by have := CI.out; omega
    have q1t : (i1.toNat < a1.size) = True := eq_true hin
    go_upto_region 10 with (first | ((with_reducible refine gate_dst (N := 24) rfl ?_); refine Kd.R_lit (Kd.int .i64) _ 3 ?hg (N := 24) ?hd (xs := ([34, 61, 44, 32, 97, 123, 125, 200] : List Int)) (inner := [.int .i64 34, .int .i64 61, .int .i64 44, .int .i64 32, .int .i64 97, .int .i64 123, .int .i64 125, .int .i64 200]) (ok := fun _ => True) (okp := fun _ => True) ?hr ?hp (fun _ hk => hk) trivial (Below.refl _ _) (Nat.le_refl _) (by simp) ?_; (case hd => rfl); (case hg => rfl); (case hr => first | (go_simp; done) | (go_simp; rfl)); (case hp => exact (Reps.one (show Kd.M (Kd.int .i64) _ _ _ 34 [.int .i64 34] from rfl) (Reps.one (show Kd.M (Kd.int .i64) _ _ _ 61 [.int .i64 61] from rfl) (Reps.one (show Kd.M (Kd.int .i64) _ _ _ 44 [.int .i64 44] from rfl) (Reps.one (show Kd.M (Kd.int .i64) _ _ _ 32 [.int .i64 32] from rfl) (Reps.one (show Kd.M (Kd.int .i64) _ _ _ 97 [.int .i64 97] from rfl) (Reps.one (show Kd.M (Kd.int .i64) _ _ _ 123 [.int .i64 123] from rfl) (Reps.one (show Kd.M (Kd.int .i64) _ _ _ 125 [.int .i64 125] from rfl) (Reps.one (show Kd.M (Kd.int .i64) _ _ _ 200 [.int .i64 200] from rfl) (Reps.none _ _)))))))))); intro vl w4 ho hb hg_ hnew_; clear hg_ hnew_; rw [← NYL.out] at ho; have HO4 := aM (Kd.R_lower ho HB3.out.size); have HBK4 := aM (blk_below HBK3.out hb); have HI4 := aM (IsS132.below HI3.out hb); have HB4 := aM (below_step HB3.out hb); have HK4 := aM (KeepBut.trans HK3.out (show KeepBut w3 w4 g none from ⟨hb.size, fun i hi _ _ => hb.block i hi⟩) (.inl rfl)); clear ho hb; obtain ⟨Al, cl, el⟩ := Kd.R_slice HO4.out; subst el) | ((with_reducible refine gate_callee (f := 97) rfl ?_); refine goesL_ (some 25) rfl rfl Try.func97 (by kernel_rfl) rfl #[.pointer (some ⟨g, 0, none⟩), .slice Al yl.length cl] rfl (by (try simp only [List.map_toArray, List.map_cons, List.map_nil]); first | done | rfl) ?_; refine (spec_l1Int.calls g s0_0 d2 d3 _ _ yl x1 x2 x3 w0 _ HI4.out HB4.out (Kd.R_reads' HO4.out).2.2 (Kd.R_reads' HO4.out).2.1 (far_slice (IsS132.own_ne HI4.out HO4.out (by decide))) AX.out).mono ?_; rintro e w5 ⟨rfl, hi, hb, hk⟩; refine ⟨_, rfl, ?_⟩; have HBK5 := aM ((hk.2 b (blk_lt HBK4.out) (Ne.symm NB.out) (by simp)).trans HBK4.out); have HI5 := aM hi; have HB5 := aM hb; have HK5 := aM (KeepBut.trans HK4.out hk (.inl rfl)); have zb : w5.cell? ⟨b, i1.toNat, none⟩ = some (.int .u8 (a1.data[i1.toNat]'hin).toNat) := (markCell_ HBK5.out i1.toNat).trans (HC.out i1.toNat hin); have yb : w5.frozen? ⟨b, i1.toNat, none⟩ = false := markFree_ HBK5.out _ (Nat.lt_of_lt_of_le hin HCS.out); clear hi hb hk HI4 HB4 HK4 HBK4 HO4))
    have HT := aM (show (convert 22 9 (.slice (some ⟨b, 0, none⟩) a1.size cp)).run Try.prog (w5.setCell ⟨b, i1.toNat, none⟩ (.int .u8 (x1 % 256))) = .ok (.string (bendSet a1 i1.toNat x1)) (w5.setCell ⟨b, i1.toNat, none⟩ (.int .u8 (x1 % 256))) from by
     have hh := run_convert_bytes_back (P := Try.prog) (w5.setCell ⟨b, i1.toNat, none⟩ (.int .u8 (x1 % 256))) 22 9 5 ⟨b, 0, none⟩ cp (a1.data.toList.set i1.toNat (UInt8.ofNat (x1 % 256).toNat)) Try.underlying22 Try.underlying5 Try.underlying9 (fun j hj => by
      rw [add0_]
      rw [List.length_set, Array.length_toList] at hj
      show (w5.setCells b i1.toNat [.int .u8 (x1 % 256)]).cell? ⟨b, j, none⟩ = _
      by_cases hij : j = i1.toNat
      ·subst hij
       have h1 := World.cell?_setCells_in b [.int .u8 (x1 % 256)] i1.toNat w5 (fun q hq => by
        have hq0 : q = 0 := by simpa using hq
        subst hq0
        rw [Nat.add_zero, zb]; rfl) 0 (by simp)
       rw [Nat.add_zero] at h1
       rw [h1]
       simp only [List.getElem_set_self, List.getElem_cons_zero]
       congr 2
       rw [UInt8.toNat_ofNat']
       omega
      ·rw [World.cell?_setCells_out b _ _ _ _ (fun _ _ => by simp; omega), List.getElem_set_ne (fun q => hij q.symm)]
       exact (markCell_ HBK5.out j).trans ((HC.out j hj).trans (by rw [Array.getElem_toList])))
     rw [List.length_set, Array.length_toList] at hh
     exact hh)
    have HI6 := aM (IsS132.far HI5.out (p := ⟨b, i1.toNat, none⟩) NB.out (.int .u8 (x1 % 256)))
    have HB6 := aM (show Below w0.heap.size w0 (w5.setCell ⟨b, i1.toNat, none⟩ (.int .u8 (x1 % 256))) from below_set HB5.out HBW1.out)
    have HK6 := aM (show KeepBut w (w5.setCell ⟨b, i1.toNat, none⟩ (.int .u8 (x1 % 256))) g none from ⟨by have := HK5.out.1; simpa [World.setCell] using this, fun i hi hg hr => (Below.heap_setCell w5 ⟨b, i1.toNat, none⟩ _ i (by have := HGB1.out; dsimp only; omega)).trans (HK5.out.2 i hi hg hr)⟩)
    clear zb yb HI5 HB5 HK5 HBK5
    generalize w5.setCell ⟨b, i1.toNat, none⟩ (.int .u8 (x1 % 256)) = w6 at HT HI6 HB6 HK6 ⊢
    have ht := HT.out
    go_wp2
    go_ret
    exact ⟨rfl, HI6.out, HB6.out, HK6.out⟩
   ·rw [if_neg e0] at HR
    by_cases e1 : d1 = 1
    ·rw [if_pos e1] at HR
     simp only [Option.some.injEq, Prod.mk.injEq] at HR
     obtain ⟨rfl, rfl, rfl⟩ := HR
     have e0b : (d1 == 0) = false := beq_eq_false_iff_ne.mpr e0
     have e1b : (d1 == 1) = true := by rw [e1]; rfl
     obtain ⟨i, rfl⟩ := Int.eq_ofNat_of_zero_le CI.out.1
     have hin : i < a1.size := by have := CI.out; omega
     have hsz : a1.data.toList.length = a1.size := Array.length_toList
     obtain ⟨nw, hnw⟩ : ∃ y_ : List Value, y_ = (a1.data.toList.drop (i + 1)).map (fun x => Value.int .u8 x.toNat) := ⟨_, rfl⟩
     have hnl : nw.length = a1.size - (i + 1) := by rw [hnw, List.length_map, List.length_drop, hsz]
     have hnc : ∀ (j : Nat) u, nw[j]? = some u → ∃ hj : i + 1 + j < a1.data.size, u = .int .u8 (a1.data[i + 1 + j]'hj).toNat := fun j u hu => by
      rw [hnw, List.getElem?_map, List.getElem?_drop] at hu
      obtain ⟨x, hx, rfl⟩ := Option.map_eq_some_iff.1 hu
      obtain ⟨hj, hx⟩ := List.getElem?_eq_some_iff.1 hx
      rw [Array.length_toList] at hj
      exact ⟨hj, by rw [← hx, Array.getElem_toList]⟩
     have hAex : ∃ A : Addr, (if cp = i + 1 then some (⟨b, 0, none⟩ : Addr) else some ⟨b, i + 1, none⟩) = some A ∧ ∀ (j : Nat) u, nw[j]? = some u → w3.drew.cell? (A.add j) = some u := by
      by_cases hc : cp = i + 1
      ·refine ⟨_, if_pos hc, fun j u hu => ?_⟩
       have h0 : nw.length = 0 := by rw [hnl]; have := HCP.out; omega
       rw [List.getElem?_eq_none (by omega)] at hu
       cases hu
      ·refine ⟨_, if_neg hc, fun j u hu => ?_⟩
       obtain ⟨hj, rfl⟩ := hnc j u hu
       have ha : (⟨b, i + 1, none⟩ : Addr).add j = ⟨b, i + 1 + j, none⟩ := by unfold Addr.add; split <;> simp_all
       rw [ha]
       exact (markCell_ HBK3.out _).trans (HC.out _ hj)
     obtain ⟨A, hA, hAc⟩ := hAex
     have s1 := aM (show nw.length = (a1.size - (i + 1)) * 1 by rw [Nat.mul_one]; exact hnl)
     have s2 := aM (show ∀ u ∈ nw, u.oneCell' = true from fun u hu => by rw [hnw] at hu; obtain ⟨x, _, rfl⟩ := List.mem_map.1 hu; rfl)
     have s3 := aM (show ∀ j, j < nw.length → (w3.drew.cell? ⟨b, 0 + i * 1 + j, none⟩).isSome = true ∧ w3.drew.frozen? ⟨b, 0 + i * 1 + j, none⟩ = false from fun j hj => by
      have hj' : 0 + i * 1 + j < a1.data.size := by rw [hnl] at hj; show _ < a1.size; omega
      have h_ := (markCell_ HBK3.out (0 + i * 1 + j)).trans (HC.out _ hj')
      exact ⟨Option.isSome_iff_exists.2 ⟨_, h_⟩, markFree_ (W := w3) HBK3.out (0 + i * 1 + j) (by have := HCS.out; rw [hnl] at hj; omega)⟩)
     have HAC := aM hAc
     have HNC := aM hnc
     have HNL := aM hnl
     have HNW := aM hnw
     have hroom : i + (a1.size - (i + 1)) ≤ cp := by have := HCP.out; omega
     have hic : i ≤ cp := by have := HCP.out; omega
     have hwr : IntKind.i64.wrap ((i : Int) + 1) = (i : Int) + 1 := by rw [IntKind.wrap_i64]; have := CI.out; omega
     have hp0 : (0 : Int) ≤ (i : Int) + 1 := by omega
     have hp1 : (i : Int) + 1 ≤ (a1.size : Int) := by omega
     have hp2 : ((i : Int) + 1).toNat = i + 1 := by omega
     obtain ⟨i5, hi5, hz5⟩ : ∃ ti, Try.prog.info? 5 = some ti ∧ ti.size = 1 := ⟨_, rfl, rfl⟩
     clear hAc hnc hnl hnw
     go_upto_region 9 with (fail)
     go_region_law (refine step_append_room rfl (.tmp 32) (.tmp 36) 22 rfl 5 i5 1 Try.underlying22 hi5 hz5 b 0 i cp (by simp [Act.eval, Act.put]) A (a1.size - (i + 1)) (cp - (i + 1)) nw (by simp [Act.eval, Act.put]) s1.out HAC.out s2.out (by omega) s3.out ?_)
     have hlen : (a1.data.toList.take i ++ a1.data.toList.drop (i + 1)).length = i + (a1.size - (i + 1)) := by rw [List.length_append, List.length_take, List.length_drop, hsz]; omega
     have HT := aM (show (convert 22 9 (.slice (some ⟨b, 0, none⟩) (i + (a1.size - (i + 1))) cp)).run Try.prog (w3.drew.setCells b (0 + i * 1) nw) = .ok (.string (bendCut a1 (i : Int).toNat)) (w3.drew.setCells b (0 + i * 1) nw) from by
      have hh := run_convert_bytes_back (P := Try.prog) (w3.drew.setCells b (0 + i * 1) nw) 22 9 5 ⟨b, 0, none⟩ cp (a1.data.toList.take i ++ a1.data.toList.drop (i + 1)) Try.underlying22 Try.underlying5 Try.underlying9 (fun j hj => by
       rw [add0_]
       by_cases hji : j < i
       ·rw [World.cell?_setCells_out b _ _ _ _ (fun _ _ => Or.inl (by dsimp only; omega))]
        have hj' : j < a1.data.size := by show j < a1.size; omega
        rw [List.getElem_append_left (by rw [List.length_take, hsz]; omega), List.getElem_take]
        exact (markCell_ (W := w3) HBK3.out j).trans ((HC.out j hj').trans (by rw [Array.getElem_toList]))
       ·have hjn : j - i < nw.length := by rw [HNL.out]; rw [hlen] at hj; omega
        have h1 := World.cell?_setCells_in b nw (0 + i * 1) w3.drew (fun q hq => (s3.out q hq).1) (j - i) hjn
        have hq : 0 + i * 1 + (j - i) = j := by omega
        rw [hq] at h1
        rw [h1]
        obtain ⟨hj2, he⟩ := HNC.out (j - i) _ (List.getElem?_eq_getElem hjn)
        have htk : (a1.data.toList.take i).length = i := by rw [List.length_take, hsz]; omega
        rw [he, List.getElem_append_right (by rw [htk]; omega)]
        simp only [htk, List.getElem_drop, Array.getElem_toList])
      rw [hlen] at hh
      exact hh)
     have HI6 := aM (show IsS132 w0 (w3.drew.setCells b (0 + i * 1) nw) g s0_0 d2 d3 from (by
      obtain ⟨A0, c0_, h1, h2, h3⟩ := HI3.out
      exact ⟨A0, c0_, (heap_setCells_ b g NB.out nw (0 + i * 1) w3.drew).trans h1, h2, h3⟩))
     have HB6 := aM (show Below w0.heap.size w0 (w3.drew.setCells b (0 + i * 1) nw) from below_setCells_ b HBW1.out nw (0 + i * 1) (below_drew HB3.out))
     have HK6 := aM (show KeepBut w (w3.drew.setCells b (0 + i * 1) nw) g none from ⟨Nat.le_trans HK3.out.1 (Nat.le_of_eq (size_setCells_ b nw (0 + i * 1) w3.drew).symm), fun q hq hg hr => (heap_setCells_ b q (by have := HGB1.out; omega) nw (0 + i * 1) w3.drew).trans (HK3.out.2 q hq hg hr)⟩)
     go_upto_region 10 with (fail)
     simp only [Nat.zero_add, Nat.mul_one] at HT HI6 HB6 HK6
     generalize w3.drew.setCells b i nw = w6 at HT HI6 HB6 HK6 ⊢
     have ht := HT.out
     go_wp2
     go_ret
     exact ⟨rfl, HI6.out, HB6.out, HK6.out⟩
    ·rw [if_neg e1] at HR
     simp only [Option.some.injEq, Prod.mk.injEq] at HR
     obtain ⟨rfl, rfl, rfl⟩ := HR
     have e0b : (d1 == 0) = false := beq_eq_false_iff_ne.mpr e0
     have e1b : (d1 == 1) = false := beq_eq_false_iff_ne.mpr e1
     have HT := aM (show (convert 22 9 (.slice (some ⟨b, 0, none⟩) a1.size cp)).run Try.prog _ = .ok (.string a1) _ from by
      have hh := run_convert_bytes_back (P := Try.prog) w3 22 9 5 ⟨b, 0, none⟩ cp a1.data.toList Try.underlying22 Try.underlying5 Try.underlying9 (fun j hj => by rw [add0_]; have hj' : j < a1.data.size := (by rw [Array.length_toList] at hj; exact hj); exact (markCell_ HBK3.out j).trans ((HC.out j hj').trans (by rw [Array.getElem_toList])))
      rw [Array.length_toList] at hh
      exact hh)
     have ht := HT.out
     go_wp2
     go_ret
     exact ⟨rfl, HI3.out, HB3.out, HK3.out⟩
  ·rw [if_neg ci] at h; cases h

/-! ### spec_DrawParseSet: function 12 -/
def spec_DrawParseSet.f (k : Nat) (l0 : List Int) : Option (ByteArray) := (spec_l1New.f k l0).bind fun bt294 => ((spec_l1Once.f bt294.1 bt294.2.1 bt294.2.2 4).bind fun bt298 => (if bt298.1 = true then ((spec_l1Str.f bt294.1 bt298.2.1 bt298.2.2 (([(⟨#[]⟩ : ByteArray), (⟨#[123, 125]⟩ : ByteArray), (⟨#[123]⟩ : ByteArray), (⟨#[125]⟩ : ByteArray), (⟨#[123, 97, 112, 112, 61, 34, 97, 34, 125]⟩ : ByteArray), (⟨#[123, 97, 112, 112, 61, 34, 97, 34, 44, 32, 97, 112, 112, 61, 34, 98, 34, 125]⟩ : ByteArray), (⟨#[123, 98, 61, 34, 97, 34, 44, 32, 97, 61, 34, 98, 34, 125]⟩ : ByteArray), (⟨#[123, 97, 112, 112, 61, 97, 125]⟩ : ByteArray), (⟨#[123, 97, 112, 112, 61, 34, 97, 34, 44, 104, 111, 115, 116, 61, 34, 49, 34, 125]⟩ : ByteArray), (⟨#[123, 97, 112, 112, 61, 34, 97, 34, 44, 32, 125]⟩ : ByteArray), (⟨#[123, 61, 34, 97, 34, 125]⟩ : ByteArray), (⟨#[123, 97, 112, 112, 61, 34, 97, 34, 125, 32]⟩ : ByteArray)] : List ByteArray))).bind fun bt304 => (some bt304.1)) else ((spec_l2Draw.f k bt294.1 bt298.2.1 bt298.2.2).bind fun bt307 => ((spec_SetText.f k bt307.1).bind fun t312 => ((spec_l3Bend.f bt294.1 bt307.2.1 bt307.2.2 t312).bind fun bt313 => (some bt313.1))))))
theorem spec_DrawParseSet.mono : ∀ a0 k, LeO (spec_DrawParseSet.f k a0) (spec_DrawParseSet.f (k + 1) a0) := by
 intro a0 k
 unfold spec_DrawParseSet.f
 repeat' first
   | (with_reducible exact spec_SetText.mono _ _)
   | (with_reducible exact spec_l1New.mono _ _)
   | (with_reducible exact spec_l2Draw.mono _ _ _ _)
   | (with_reducible exact LeO.refl _)
   | (with_reducible exact LeO.none _)
   | (with_reducible refine LeO.ite ?_ ?_)
   | (with_reducible refine LeO.bind ?_ (fun _ => ?_))
   | exact spec_SetText.mono _ _
   | exact spec_l1New.mono _ _
   | exact spec_l2Draw.mono _ _ _ _
   | exact LeO.none _
   | refine LeO.ite ?_ ?_
   | refine LeO.bind ?_ (fun _ => ?_)
set_option maxHeartbeats 8000000 in
set_option maxRecDepth 100000 in
theorem spec_DrawParseSet.calls (k : Nat) (A0 : Option Addr) (c0 : Nat) (l0 : List Int) (r : ByteArray) (w : World) (hr0 : Kd.C (Kd.int .u8) w A0 l0.length l0) (hc0 : l0.length ≤ c0) (h : spec_DrawParseSet.f k l0 = some r) :
  Calls Try.prog 12 #[.slice A0 l0.length c0] w fun e w' => e = .returned (.string r) ∧ Below w.heap.size w w' := by
 have HR0 := aM hr0
 have HC0 := aM hc0
 clear hr0 hc0
 have HB := aM (Below.refl w.heap.size w)
 have H : ((spec_l1New.f k l0).bind fun bt294 => ((spec_l1Once.f bt294.1 bt294.2.1 bt294.2.2 4).bind fun bt298 => (if bt298.1 = true then ((spec_l1Str.f bt294.1 bt298.2.1 bt298.2.2 (([(⟨#[]⟩ : ByteArray), (⟨#[123, 125]⟩ : ByteArray), (⟨#[123]⟩ : ByteArray), (⟨#[125]⟩ : ByteArray), (⟨#[123, 97, 112, 112, 61, 34, 97, 34, 125]⟩ : ByteArray), (⟨#[123, 97, 112, 112, 61, 34, 97, 34, 44, 32, 97, 112, 112, 61, 34, 98, 34, 125]⟩ : ByteArray), (⟨#[123, 98, 61, 34, 97, 34, 44, 32, 97, 61, 34, 98, 34, 125]⟩ : ByteArray), (⟨#[123, 97, 112, 112, 61, 97, 125]⟩ : ByteArray), (⟨#[123, 97, 112, 112, 61, 34, 97, 34, 44, 104, 111, 115, 116, 61, 34, 49, 34, 125]⟩ : ByteArray), (⟨#[123, 97, 112, 112, 61, 34, 97, 34, 44, 32, 125]⟩ : ByteArray), (⟨#[123, 61, 34, 97, 34, 125]⟩ : ByteArray), (⟨#[123, 97, 112, 112, 61, 34, 97, 34, 125, 32]⟩ : ByteArray)] : List ByteArray))).bind fun bt304 => (some bt304.1)) else ((spec_l2Draw.f k bt294.1 bt298.2.1 bt298.2.2).bind fun bt307 => ((spec_SetText.f k bt307.1).bind fun t312 => ((spec_l3Bend.f bt294.1 bt307.2.1 bt307.2.2 t312).bind fun bt313 => (some bt313.1))))))) = some r := h
 clear h; replace H := Option.bind_eq_some_iff.mp H
 obtain ⟨⟨t294, t295, t296⟩, A20, H⟩ := H
 try dsimp only at H
 have A2 := aM A20
 clear A20; replace H := Option.bind_eq_some_iff.mp H
 obtain ⟨⟨t298, t299, t300⟩, A30, H⟩ := H
 try dsimp only at H
 have A3 := aM A30
 clear A30
 by_cases c4 : t298 = true
 ·subst c4
  have H1 : ((spec_l1Str.f t294 t299 t300 (([(⟨#[]⟩ : ByteArray), (⟨#[123, 125]⟩ : ByteArray), (⟨#[123]⟩ : ByteArray), (⟨#[125]⟩ : ByteArray), (⟨#[123, 97, 112, 112, 61, 34, 97, 34, 125]⟩ : ByteArray), (⟨#[123, 97, 112, 112, 61, 34, 97, 34, 44, 32, 97, 112, 112, 61, 34, 98, 34, 125]⟩ : ByteArray), (⟨#[123, 98, 61, 34, 97, 34, 44, 32, 97, 61, 34, 98, 34, 125]⟩ : ByteArray), (⟨#[123, 97, 112, 112, 61, 97, 125]⟩ : ByteArray), (⟨#[123, 97, 112, 112, 61, 34, 97, 34, 44, 104, 111, 115, 116, 61, 34, 49, 34, 125]⟩ : ByteArray), (⟨#[123, 97, 112, 112, 61, 34, 97, 34, 44, 32, 125]⟩ : ByteArray), (⟨#[123, 61, 34, 97, 34, 125]⟩ : ByteArray), (⟨#[123, 97, 112, 112, 61, 34, 97, 34, 125, 32]⟩ : ByteArray)] : List ByteArray))).bind fun bt304 => (some bt304.1)) = some r := by rw [if_pos rfl] at H; exact H
  clear H
  have H := H1
  clear H1
  obtain ⟨y301, hy301⟩ : ∃ y_ : List ByteArray, y_ = (([(⟨#[]⟩ : ByteArray), (⟨#[123, 125]⟩ : ByteArray), (⟨#[123]⟩ : ByteArray), (⟨#[125]⟩ : ByteArray), (⟨#[123, 97, 112, 112, 61, 34, 97, 34, 125]⟩ : ByteArray), (⟨#[123, 97, 112, 112, 61, 34, 97, 34, 44, 32, 97, 112, 112, 61, 34, 98, 34, 125]⟩ : ByteArray), (⟨#[123, 98, 61, 34, 97, 34, 44, 32, 97, 61, 34, 98, 34, 125]⟩ : ByteArray), (⟨#[123, 97, 112, 112, 61, 97, 125]⟩ : ByteArray), (⟨#[123, 97, 112, 112, 61, 34, 97, 34, 44, 104, 111, 115, 116, 61, 34, 49, 34, 125]⟩ : ByteArray), (⟨#[123, 97, 112, 112, 61, 34, 97, 34, 44, 32, 125]⟩ : ByteArray), (⟨#[123, 61, 34, 97, 34, 125]⟩ : ByteArray), (⟨#[123, 97, 112, 112, 61, 34, 97, 34, 125, 32]⟩ : ByteArray)] : List ByteArray)) := ⟨_, rfl⟩
  replace H : ((spec_l1Str.f t294 t299 t300 y301).bind fun bt304 => (some bt304.1)) = some r := by first | (rw [hy301]; with_reducible exact H) | (have H2_ := (Option.bind_some _ _).symm.trans H; rw [hy301]; with_reducible exact H2_) | (have H2_ := (Option.bind_some _ _).symm.trans H; with_reducible exact H2_) | with_reducible exact H | (rw [hy301]; exact H) | exact H
  have Ny301 := aM hy301
  clear hy301; replace H := Option.bind_eq_some_iff.mp H
  obtain ⟨⟨t304, t305, t306⟩, A50, H⟩ := H
  try dsimp only at H
  have A5 := aM A50
  clear A50
  obtain rfl := Option.some.inj H
  go_enter Try.func12, Try.ntmps12
  go_wp2_with (first | ((with_reducible refine gate_callee (f := 80) rfl ?_); refine goesL_ (some 5) rfl rfl Try.func80 (by kernel_rfl) rfl #[.slice A0 l0.length c0] rfl (by (try simp only [List.map_toArray, List.map_cons, List.map_nil]); first | done | rfl | (simp only [List.length_drop, List.length_take]; rfl)) ?_; (with_reducible refine (spec_l1New.calls k _ _ l0 t294 t295 t296 w _ ?side1 ?side2 ?side3 A2.out).mono ?_); (case side1 => repeat (first | (with_reducible first | exact HB.out | apply aW1 | apply aW2 | apply aW3) | exact HB.out)); (case side2 => exact HR0.out); (case side3 => exact HC0.out); rintro e w6 ⟨g297, rfl, hi, hb, hb2⟩; refine ⟨_, rfl, ?_⟩; have n0_ := aM (hb); have n1_ := aM (hi); clear HB; have HB := n0_; have HI297 := n1_; clear n0_ n1_; (try clear hb); (try clear hb2); (try clear hk); (try clear hi)) | ((with_reducible refine gate_callee (f := 84) rfl ?_); refine goesL_ (some 7) rfl rfl Try.func84 (by kernel_rfl) rfl #[.pointer (some ⟨g297, 0, none⟩), .int .i64 4] rfl (by (try simp only [List.map_toArray, List.map_cons, List.map_nil]); first | done | rfl | (simp only [List.length_drop, List.length_take]; rfl)) ?_; (with_reducible refine (spec_l1Once.calls g297 t294 t295 t296 4 true t299 t300 w _ ?side1 ?side2 A3.out).mono ?_); (case side1 => repeat (first | (with_reducible first | exact HI297.out | apply IsS132.alloc | apply IsS132.drewN | apply IsS132.drew | apply IsS132.set_1 | apply IsS132.set_2) | exact HI297.out)); (case side2 => repeat (first | (with_reducible first | exact HB.out | apply aW1 | apply aW2 | apply aW3 | refine below_set ?_ (IsS132.ge HI297.out)) | exact HB.out)); rintro e w7 ⟨rfl, hi, hb, hk⟩; refine ⟨_, rfl, ?_⟩; have n0_ := aM (hb); have n1_ := aM (hi); clear HB HI297; have HB := n0_; have HI297 := n1_; clear n0_ n1_; (try clear hb); (try clear hb2); (try clear hk); (try clear hi)) | ((with_reducible refine gate_dst (N := 9) rfl ?_); refine Kd.R_lit Kd.string _ 9 ?hg (N := 9) ?hd (xs := ([(⟨#[]⟩ : ByteArray), (⟨#[123, 125]⟩ : ByteArray), (⟨#[123]⟩ : ByteArray), (⟨#[125]⟩ : ByteArray), (⟨#[123, 97, 112, 112, 61, 34, 97, 34, 125]⟩ : ByteArray), (⟨#[123, 97, 112, 112, 61, 34, 97, 34, 44, 32, 97, 112, 112, 61, 34, 98, 34, 125]⟩ : ByteArray), (⟨#[123, 98, 61, 34, 97, 34, 44, 32, 97, 61, 34, 98, 34, 125]⟩ : ByteArray), (⟨#[123, 97, 112, 112, 61, 97, 125]⟩ : ByteArray), (⟨#[123, 97, 112, 112, 61, 34, 97, 34, 44, 104, 111, 115, 116, 61, 34, 49, 34, 125]⟩ : ByteArray), (⟨#[123, 97, 112, 112, 61, 34, 97, 34, 44, 32, 125]⟩ : ByteArray), (⟨#[123, 61, 34, 97, 34, 125]⟩ : ByteArray), (⟨#[123, 97, 112, 112, 61, 34, 97, 34, 125, 32]⟩ : ByteArray)] : List ByteArray)) (inner := [.string (⟨#[]⟩ : ByteArray), .string (⟨#[123, 125]⟩ : ByteArray), .string (⟨#[123]⟩ : ByteArray), .string (⟨#[125]⟩ : ByteArray), .string (⟨#[123, 97, 112, 112, 61, 34, 97, 34, 125]⟩ : ByteArray), .string (⟨#[123, 97, 112, 112, 61, 34, 97, 34, 44, 32, 97, 112, 112, 61, 34, 98, 34, 125]⟩ : ByteArray), .string (⟨#[123, 98, 61, 34, 97, 34, 44, 32, 97, 61, 34, 98, 34, 125]⟩ : ByteArray), .string (⟨#[123, 97, 112, 112, 61, 97, 125]⟩ : ByteArray), .string (⟨#[123, 97, 112, 112, 61, 34, 97, 34, 44, 104, 111, 115, 116, 61, 34, 49, 34, 125]⟩ : ByteArray), .string (⟨#[123, 97, 112, 112, 61, 34, 97, 34, 44, 32, 125]⟩ : ByteArray), .string (⟨#[123, 61, 34, 97, 34, 125]⟩ : ByteArray), .string (⟨#[123, 97, 112, 112, 61, 34, 97, 34, 125, 32]⟩ : ByteArray)]) (ok := fun _ => True) (okp := fun _ => True) ?hr ?hp (fun _ hk => hk) trivial (Below.refl _ _) (Nat.le_refl _) (by simp) ?_; (case hd => rfl); (case hg => rfl); (case hr => first | (go_simp; done) | (go_simp; rfl)); (case hp => exact (Reps.one (show Kd.M Kd.string _ _ _ (⟨#[]⟩ : ByteArray) [.string (⟨#[]⟩ : ByteArray)] from rfl) (Reps.one (show Kd.M Kd.string _ _ _ (⟨#[123, 125]⟩ : ByteArray) [.string (⟨#[123, 125]⟩ : ByteArray)] from rfl) (Reps.one (show Kd.M Kd.string _ _ _ (⟨#[123]⟩ : ByteArray) [.string (⟨#[123]⟩ : ByteArray)] from rfl) (Reps.one (show Kd.M Kd.string _ _ _ (⟨#[125]⟩ : ByteArray) [.string (⟨#[125]⟩ : ByteArray)] from rfl) (Reps.one (show Kd.M Kd.string _ _ _ (⟨#[123, 97, 112, 112, 61, 34, 97, 34, 125]⟩ : ByteArray) [.string (⟨#[123, 97, 112, 112, 61, 34, 97, 34, 125]⟩ : ByteArray)] from rfl) (Reps.one (show Kd.M Kd.string _ _ _ (⟨#[123, 97, 112, 112, 61, 34, 97, 34, 44, 32, 97, 112, 112, 61, 34, 98, 34, 125]⟩ : ByteArray) [.string (⟨#[123, 97, 112, 112, 61, 34, 97, 34, 44, 32, 97, 112, 112, 61, 34, 98, 34, 125]⟩ : ByteArray)] from rfl) (Reps.one (show Kd.M Kd.string _ _ _ (⟨#[123, 98, 61, 34, 97, 34, 44, 32, 97, 61, 34, 98, 34, 125]⟩ : ByteArray) [.string (⟨#[123, 98, 61, 34, 97, 34, 44, 32, 97, 61, 34, 98, 34, 125]⟩ : ByteArray)] from rfl) (Reps.one (show Kd.M Kd.string _ _ _ (⟨#[123, 97, 112, 112, 61, 97, 125]⟩ : ByteArray) [.string (⟨#[123, 97, 112, 112, 61, 97, 125]⟩ : ByteArray)] from rfl) (Reps.one (show Kd.M Kd.string _ _ _ (⟨#[123, 97, 112, 112, 61, 34, 97, 34, 44, 104, 111, 115, 116, 61, 34, 49, 34, 125]⟩ : ByteArray) [.string (⟨#[123, 97, 112, 112, 61, 34, 97, 34, 44, 104, 111, 115, 116, 61, 34, 49, 34, 125]⟩ : ByteArray)] from rfl) (Reps.one (show Kd.M Kd.string _ _ _ (⟨#[123, 97, 112, 112, 61, 34, 97, 34, 44, 32, 125]⟩ : ByteArray) [.string (⟨#[123, 97, 112, 112, 61, 34, 97, 34, 44, 32, 125]⟩ : ByteArray)] from rfl) (Reps.one (show Kd.M Kd.string _ _ _ (⟨#[123, 61, 34, 97, 34, 125]⟩ : ByteArray) [.string (⟨#[123, 61, 34, 97, 34, 125]⟩ : ByteArray)] from rfl) (Reps.one (show Kd.M Kd.string _ _ _ (⟨#[123, 97, 112, 112, 61, 34, 97, 34, 125, 32]⟩ : ByteArray) [.string (⟨#[123, 97, 112, 112, 61, 34, 97, 34, 125, 32]⟩ : ByteArray)] from rfl) (Reps.none _ _)))))))))))))); intro v302 w8 ho9 hb hg_ hnew_; clear hg_ hnew_; (first | rw [← Ny301.out] at ho9 | (simp only [Int.reduceToNat] at ho9; rw [← Ny301.out] at ho9)); have n0_ := aM (Kd.R_lower ho9 (below_size (by repeat (first | (with_reducible first | exact HB.out | apply aW1 | apply aW2 | apply aW3 | refine below_set ?_ (IsS132.ge HI297.out)) | exact HB.out)))); have n1_ := aM (IsS132.below (by repeat (first | (with_reducible first | exact HI297.out | apply IsS132.alloc | apply IsS132.drewN | apply IsS132.drew | apply IsS132.set_1 | apply IsS132.set_2) | exact HI297.out)) hb); have n2_ := aM (below_step (by repeat (first | (with_reducible first | exact HB.out | apply aW1 | apply aW2 | apply aW3 | refine below_set ?_ (IsS132.ge HI297.out)) | exact HB.out)) hb); clear HI297 HB; have HO303 := n0_; have HI297 := n1_; have HB := n2_; clear n0_ n1_ n2_ hb ho9; obtain ⟨Ao10, co10, eo10⟩ := Kd.R_slice HO303.out; subst eo10) | ((with_reducible refine gate_callee (f := 85) rfl ?_); refine goesL_ (some 10) rfl rfl Try.func85 (by kernel_rfl) rfl #[.pointer (some ⟨g297, 0, none⟩), .slice Ao10 y301.length co10] rfl (by (try simp only [List.map_toArray, List.map_cons, List.map_nil]); first | done | rfl | (simp only [List.length_drop, List.length_take]; rfl)) ?_; (with_reducible refine (spec_l1Str.calls g297 t294 t299 t300 _ _ y301 t304 t305 t306 w _ ?side1 ?side2 ?side3 ?side4 ?side5 A5.out).mono ?_); (case side1 => repeat (first | (with_reducible first | exact HI297.out | apply IsS132.alloc | apply IsS132.drewN | apply IsS132.drew | apply IsS132.set_1 | apply IsS132.set_2) | exact HI297.out)); (case side2 => repeat (first | (with_reducible first | exact HB.out | apply aW1 | apply aW2 | apply aW3 | refine below_set ?_ (IsS132.ge HI297.out)) | exact HB.out)); (case side3 => repeat (first | exact (Kd.R_reads' HO303.out).2.2 | (with_reducible refine Kd.C_alloc ?_ _) | (with_reducible refine Kd.C_drewN ?_ _) | (with_reducible refine Kd.C_drew ?_))); (case side4 => exact (Kd.R_reads' HO303.out).2.1); (case side5 => exact far_slice (IsS132.own_ne HI297.out HO303.out (by decide))); rintro e w11 ⟨rfl, hi, hb, hk⟩; refine ⟨_, rfl, ?_⟩; have n0_ := aM (Kd.R_mono (Kd.R_keep (IsS132.apart (show IsS132 w _ g297 t294 t299 t300 from by repeat (first | (with_reducible first | exact HI297.out | apply IsS132.alloc | apply IsS132.drewN | apply IsS132.drew | apply IsS132.set_1 | apply IsS132.set_2) | exact HI297.out)) (aR HO303) (by decide)) hk (fun _ h => h.2)) (fun _ h => h.1)); have n1_ := aM (hb); have n2_ := aM (hi); clear HO303 HB HI297; have HO303 := n0_; have HB := n1_; have HI297 := n2_; clear n0_ n1_ n2_; (try clear hb); (try clear hb2); (try clear hk); (try clear hi)))
  go_ret
  exact ⟨by first | rfl | (simp [errW_none, errW_some] <;> rfl) | (simp [*, errW_none, errW_some] <;> rfl), by repeat (first | (with_reducible first | exact HB.out | apply aW1 | apply aW2 | apply aW3 | refine below_set ?_ (IsS132.ge HI297.out)) | exact HB.out)⟩
 ·replace c4 := Bool.eq_false_iff.mpr c4
  subst c4
  have H1 : ((spec_l2Draw.f k t294 t299 t300).bind fun bt307 => ((spec_SetText.f k bt307.1).bind fun t312 => ((spec_l3Bend.f t294 bt307.2.1 bt307.2.2 t312).bind fun bt313 => (some bt313.1)))) = some r := by rw [if_neg (show ¬ (false = true) by decide)] at H; exact H
  clear H
  have H := H1
  clear H1; replace H := Option.bind_eq_some_iff.mp H
  obtain ⟨⟨t307, t310, t311⟩, A120, H⟩ := H
  try dsimp only at H
  have A12 := aM A120
  clear A120; replace H := Option.bind_eq_some_iff.mp H; obtain ⟨t312, A130, H⟩ := H; try dsimp only at H
  have A13 := aM A130
  clear A130; replace H := Option.bind_eq_some_iff.mp H
  obtain ⟨⟨t313, t314, t315⟩, A140, H⟩ := H
  try dsimp only at H
  have A14 := aM A140
  clear A140
  obtain rfl := Option.some.inj H
  go_enter Try.func12, Try.ntmps12
  go_wp2_with (first | ((with_reducible refine gate_callee (f := 80) rfl ?_); refine goesL_ (some 5) rfl rfl Try.func80 (by kernel_rfl) rfl #[.slice A0 l0.length c0] rfl (by (try simp only [List.map_toArray, List.map_cons, List.map_nil]); first | done | rfl | (simp only [List.length_drop, List.length_take]; rfl)) ?_; (with_reducible refine (spec_l1New.calls k _ _ l0 t294 t295 t296 w _ ?side1 ?side2 ?side3 A2.out).mono ?_); (case side1 => repeat (first | (with_reducible first | exact HB.out | apply aW1 | apply aW2 | apply aW3) | exact HB.out)); (case side2 => exact HR0.out); (case side3 => exact HC0.out); rintro e w15 ⟨g297, rfl, hi, hb, hb2⟩; refine ⟨_, rfl, ?_⟩; have n0_ := aM (hb); have n1_ := aM (hi); clear HB; have HB := n0_; have HI297 := n1_; clear n0_ n1_; (try clear hb); (try clear hb2); (try clear hk); (try clear hi)) | ((with_reducible refine gate_callee (f := 84) rfl ?_); refine goesL_ (some 7) rfl rfl Try.func84 (by kernel_rfl) rfl #[.pointer (some ⟨g297, 0, none⟩), .int .i64 4] rfl (by (try simp only [List.map_toArray, List.map_cons, List.map_nil]); first | done | rfl | (simp only [List.length_drop, List.length_take]; rfl)) ?_; (with_reducible refine (spec_l1Once.calls g297 t294 t295 t296 4 false t299 t300 w _ ?side1 ?side2 A3.out).mono ?_); (case side1 => repeat (first | (with_reducible first | exact HI297.out | apply IsS132.alloc | apply IsS132.drewN | apply IsS132.drew | apply IsS132.set_1 | apply IsS132.set_2) | exact HI297.out)); (case side2 => repeat (first | (with_reducible first | exact HB.out | apply aW1 | apply aW2 | apply aW3 | refine below_set ?_ (IsS132.ge HI297.out)) | exact HB.out)); rintro e w16 ⟨rfl, hi, hb, hk⟩; refine ⟨_, rfl, ?_⟩; have n0_ := aM (hb); have n1_ := aM (hi); clear HB HI297; have HB := n0_; have HI297 := n1_; clear n0_ n1_; (try clear hb); (try clear hb2); (try clear hk); (try clear hi)) | ((with_reducible refine gate_callee (f := 87) rfl ?_); refine goesL_ (some 13) rfl rfl Try.func87 (by kernel_rfl) rfl #[.pointer (some ⟨g297, 0, none⟩)] rfl (by (try simp only [List.map_toArray, List.map_cons, List.map_nil]); first | done | rfl | (simp only [List.length_drop, List.length_take]; rfl)) ?_; (with_reducible refine (spec_l2Draw.calls k g297 t294 t299 t300 t307 t310 t311 w _ ?side1 ?side2 A12.out).mono ?_); (case side1 => repeat (first | (with_reducible first | exact HI297.out | apply IsS132.alloc | apply IsS132.drewN | apply IsS132.drew | apply IsS132.set_1 | apply IsS132.set_2) | exact HI297.out)); (case side2 => repeat (first | (with_reducible first | exact HB.out | apply aW1 | apply aW2 | apply aW3 | refine below_set ?_ (IsS132.ge HI297.out)) | exact HB.out)); rintro e w17 ⟨v308, rfl, ho0, hi, hb, hk⟩; refine ⟨_, rfl, ?_⟩; have n0_ := aM (Kd.R_lower ho0 (below_size (by repeat (first | (with_reducible first | exact HB.out | apply aW1 | apply aW2 | apply aW3 | refine below_set ?_ (IsS132.ge HI297.out)) | exact HB.out)))); have n1_ := aM (hb); have n2_ := aM (hi); clear HB HI297; have HO309 := n0_; have HB := n1_; have HI297 := n2_; clear n0_ n1_ n2_; (try clear hb); (try clear hb2); (try clear hk); (try clear hi); (try clear ho0); obtain ⟨Ao18, co18, eo18⟩ := Kd.R_slice HO309.out; subst eo18) | ((with_reducible refine gate_callee (f := 18) rfl ?_); refine goesL_ (some 14) rfl rfl Try.func18 (by kernel_rfl) rfl #[.slice Ao18 t307.length co18] rfl (by (try simp only [List.map_toArray, List.map_cons, List.map_nil]); first | done | rfl | (simp only [List.length_drop, List.length_take]; rfl)) ?_; (with_reducible refine (spec_SetText.calls k _ _ t307 t312 _ ?side1 ?side2 A13.out).mono ?_); (case side1 => repeat (first | exact (Kd.R_reads' HO309.out).2.2 | (with_reducible refine Kd.C_alloc ?_ _) | (with_reducible refine Kd.C_drewN ?_ _) | (with_reducible refine Kd.C_drew ?_))); (case side2 => exact (Kd.R_reads' HO309.out).2.1); rintro e w19 ⟨rfl, hb⟩; refine ⟨_, rfl, ?_⟩; have n0_ := rb HO309 hb; have n1_ := aM (IsS132.below (by repeat (first | (with_reducible first | exact HI297.out | apply IsS132.alloc | apply IsS132.drewN | apply IsS132.drew | apply IsS132.set_1 | apply IsS132.set_2) | exact HI297.out)) hb); have n2_ := aM (below_step (by repeat (first | (with_reducible first | exact HB.out | apply aW1 | apply aW2 | apply aW3 | refine below_set ?_ (IsS132.ge HI297.out)) | exact HB.out)) hb); clear HO309 HI297 HB; have HO309 := n0_; have HI297 := n1_; have HB := n2_; clear n0_ n1_ n2_; (try clear hb); (try clear hb2); (try clear hk); (try clear hi)) | ((with_reducible refine gate_callee (f := 86) rfl ?_); refine goesL_ (some 15) rfl rfl Try.func86 (by kernel_rfl) rfl #[.pointer (some ⟨g297, 0, none⟩), .string t312] rfl (by (try simp only [List.map_toArray, List.map_cons, List.map_nil]); first | done | rfl | (simp only [List.length_drop, List.length_take]; rfl)) ?_; (with_reducible refine (spec_l3Bend.calls g297 t294 t310 t311 t312 t313 t314 t315 w _ ?side1 ?side2 A14.out).mono ?_); (case side1 => repeat (first | (with_reducible first | exact HI297.out | apply IsS132.alloc | apply IsS132.drewN | apply IsS132.drew | apply IsS132.set_1 | apply IsS132.set_2) | exact HI297.out)); (case side2 => repeat (first | (with_reducible first | exact HB.out | apply aW1 | apply aW2 | apply aW3 | refine below_set ?_ (IsS132.ge HI297.out)) | exact HB.out)); rintro e w20 ⟨rfl, hi, hb, hk⟩; refine ⟨_, rfl, ?_⟩; have n0_ := aM (Kd.R_mono (Kd.R_keep (IsS132.apart (show IsS132 w _ g297 t294 t310 t311 from by repeat (first | (with_reducible first | exact HI297.out | apply IsS132.alloc | apply IsS132.drewN | apply IsS132.drew | apply IsS132.set_1 | apply IsS132.set_2) | exact HI297.out)) (aR HO309) (by decide)) hk (fun _ h => h.2)) (fun _ h => h.1)); have n1_ := aM (hb); have n2_ := aM (hi); clear HO309 HB HI297; have HO309 := n0_; have HB := n1_; have HI297 := n2_; clear n0_ n1_ n2_; (try clear hb); (try clear hb2); (try clear hk); (try clear hi)))
  go_ret
  exact ⟨by first | rfl | (simp [errW_none, errW_some] <;> rfl) | (simp [*, errW_none, errW_some] <;> rfl), by repeat (first | (with_reducible first | exact HB.out | apply aW1 | apply aW2 | apply aW3 | refine below_set ?_ (IsS132.ge HI297.out)) | exact HB.out)⟩

/-! ### spec_l3To: function 88 -/
def spec_l3To.l0 : Nat → ByteArray → Int → Int → Int → Option (ByteArray × Int)
 | 0, _, _, _, _ => none
 | k + 1, x0, x1, x2, x8 => if x8 < (x0.size : Int) then (if 0 ≤ x8 then (if (bt x0 x8) = x2 then (if 0 ≤ x1 then (if x1 ≤ x8 then (if x8 ≤ (x0.size : Int) then (some (x0.extract (x1 : Int).toNat (x8 : Int).toNat, wrap64 (x8 + 1))) else (none)) else (none)) else (none)) else (spec_l3To.l0 k x0 x1 x2 (wrap64 (x8 + 1)))) else (none)) else (some ((⟨#[]⟩ : ByteArray), (-1)))
def spec_l3To.f (k : Nat) (a0 : ByteArray) (a1 : Int) (a2 : Int) : Option (ByteArray × Int) := spec_l3To.l0 k a0 a1 a2 a1
theorem spec_l3To.mono_l : ∀ k, (∀ y0 y1 y2 y3, LeO (spec_l3To.l0 k y0 y1 y2 y3) (spec_l3To.l0 (k + 1) y0 y1 y2 y3))
 | 0 => fun _ _ _ _ r h => by simp [spec_l3To.l0] at h
 | k + 1 => by
  have ih0 := spec_l3To.mono_l k
  ·intro y0 y1 y2 y3
   unfold spec_l3To.l0
   repeat' first
   | (with_reducible exact ih0 _ _ _ _)
   | (with_reducible exact LeO.refl _)
   | (with_reducible exact LeO.none _)
   | (with_reducible refine LeO.ite ?_ ?_)
   | (with_reducible refine LeO.bind ?_ (fun _ => ?_))
   | exact ih0 _ _ _ _
   | exact LeO.none _
   | refine LeO.ite ?_ ?_
   | refine LeO.bind ?_ (fun _ => ?_)
theorem spec_l3To.mono : ∀ a0 a1 a2 k, LeO (spec_l3To.f k a0 a1 a2) (spec_l3To.f (k + 1) a0 a1 a2) := by
 intro a0 a1 a2 k
 have ih0 := spec_l3To.mono_l k
 unfold spec_l3To.f
 repeat' first
   | (with_reducible exact ih0 _ _ _ _)
   | (with_reducible exact LeO.refl _)
   | (with_reducible exact LeO.none _)
   | (with_reducible refine LeO.ite ?_ ?_)
   | (with_reducible refine LeO.bind ?_ (fun _ => ?_))
   | exact ih0 _ _ _ _
   | exact LeO.none _
   | refine LeO.ite ?_ ?_
   | refine LeO.bind ?_ (fun _ => ?_)
set_option maxHeartbeats 8000000 in
set_option maxRecDepth 100000 in
theorem spec_l3To.calls (k : Nat) (a0 : ByteArray) (a1 : Int) (a2 : Int) (r1 : ByteArray) (r2 : Int) (w : World) (h : spec_l3To.f k a0 a1 a2 = some (r1, r2)) :
  Calls Try.prog 88 #[.string a0, .int .i64 a1, .int .u8 a2] w fun e w' => e = .returned (.tuple #[.string r1, .int .i64 r2]) ∧ Drawn0 w w' := by
 have H : (spec_l3To.l0 k a0 a1 a2 a1) = some (r1, r2) := h
 clear h
 have H' := aM H
 clear H
 go_enter Try.func88, Try.ntmps88
 go_wp2
 go_loopg [8] k (fun kq v8 w' => ∃ (x8_1 : Int), v8 = .int .i64 x8_1 ∧ Aside0 (spec_l3To.l0 kq a0 a1 a2 x8_1 = some (r1, r2)) ∧ Aside0 (kq ≤ k) ∧ Drawn0 w w')
 case atStart => exact ⟨(a1), (by first | rfl | (simp; done) | (simp [*]; done)), H', ⟨Nat.le_refl _⟩, by repeat (first | exact Drawn0.refl _ | apply Drawn0.step)⟩
 case round =>
  clear H'
  try clear p2
  obtain ⟨x8_1, rfl, HA, HK1, ⟨m1, rfl⟩⟩ := hrel
  cases gk with
  | zero => exact absurd HA.out (by simp [spec_l3To.l0])
  | succ k1 =>
   have H := HA.out
   clear HA
   simp only [spec_l3To.l0] at H
   by_cases c4 : x8_1 < (a0.size : Int)
   ·rw [if_pos c4] at H; have c4b0 : decide (x8_1 < (a0.size : Int)) = true := decide_eq_true c4; clear c4
    by_cases c5 : 0 ≤ x8_1
    ·rw [if_pos c5] at H; have c5b0 : decide (0 ≤ x8_1) = true := decide_eq_true c5; clear c5
     by_cases c7 : (bt a0 x8_1) = a2
     ·rw [if_pos c7] at H
      have c7b0 : ((bt a0 x8_1) == a2) = true := beq_iff_eq.mpr c7
      have c7b1 : ((bt a0 x8_1) != a2) = false := bne_eq_false_iff_eq.mpr c7
      clear c7
      by_cases c8 : 0 ≤ a1
      ·rw [if_pos c8] at H
       have c8b0 := eq_true c8
       have c8b1 : decide (0 ≤ a1) = true := decide_eq_true c8; clear c8
       by_cases c9 : a1 ≤ x8_1
       ·rw [if_pos c9] at H
        have c9b0 := eq_true c9
        have c9b1 : decide (a1 ≤ x8_1) = true := decide_eq_true c9; clear c9
        by_cases c10 : x8_1 ≤ (a0.size : Int)
        ·rw [if_pos c10] at H
         have c10b0 := eq_true c10
         have c10b1 : decide (x8_1 ≤ (a0.size : Int)) = true := decide_eq_true c10; clear c10
         simp only [Option.some.injEq, Prod.mk.injEq] at H
         obtain ⟨rfl, rfl⟩ := H
         have p6 : 0 ≤ (x8_1 : Int) := of_decide_eq_true (by first | (with_reducible assumption) | assumption)
         have q6 : x8_1 < (a0.size : Int) := of_decide_eq_true (by first | (with_reducible assumption) | assumption)
         have hx6 := bt_at a0 x8_1
         replace p6 := eq_true p6
         replace q6 := eq_true q6
         go_wp2
         go_ret2
         exact ⟨by first | rfl | (simp; done) | (simp [*]; done), by repeat (first | exact Drawn0.refl _ | apply Drawn0.step)⟩
        ·rw [if_neg c10] at H
         exact absurd H (by simp)
       ·rw [if_neg c9] at H
        exact absurd H (by simp)
      ·rw [if_neg c8] at H
       exact absurd H (by simp)
     ·rw [if_neg c7] at H
      have c7b0 : ((bt a0 x8_1) == a2) = false := beq_eq_false_iff_ne.mpr c7
      have c7b1 : ((bt a0 x8_1) != a2) = true := bne_iff_ne.mpr c7
      have H' := aM H
      clear H
      have p6 : 0 ≤ (x8_1 : Int) := of_decide_eq_true (by first | (with_reducible assumption) | assumption)
      have q6 : x8_1 < (a0.size : Int) := of_decide_eq_true (by first | (with_reducible assumption) | assumption)
      have hx6 := bt_at a0 x8_1
      replace p6 := eq_true p6
      replace q6 := eq_true q6
      go_wp2
      go_roundg k1
      case measure => have := HK1.out; omega
      case rel => exact ⟨(wrap64 (x8_1 + 1)), (by first | rfl | (simp; done) | (simp [*]; done)), H', ⟨by have := HK1.out; omega⟩, by repeat (first | exact Drawn0.refl _ | apply Drawn0.step)⟩
    ·rw [if_neg c5] at H
     exact absurd H (by simp)
   ·rw [if_neg c4] at H; have c4b0 : decide (x8_1 < (a0.size : Int)) = false := decide_eq_false c4; clear c4
    simp only [Option.some.injEq, Prod.mk.injEq] at H
    obtain ⟨rfl, rfl⟩ := H
    go_wp2
    go_ret2
    exact ⟨by first | rfl | (simp; done) | (simp [*]; done), by repeat (first | exact Drawn0.refl _ | apply Drawn0.step)⟩

end Go.Proofs.Ytgindocfjoalhab.PFnPrints
