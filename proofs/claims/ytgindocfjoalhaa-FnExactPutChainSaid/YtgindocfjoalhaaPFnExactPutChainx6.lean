/- What the Go functions that FnExactPutChain reaches compute, as Lean functions, and that the machine's calls do so; no conditions. -/
import Derived.Test.YtgindocfjoalhaaPFnExactPutChainx0
import Derived.Test.YtgindocfjoalhaaPFnExactPutChainx1
import Derived.Test.YtgindocfjoalhaaPFnExactPutChainx5
namespace Go.Proofs.Ytgindocfjoalhaa.PFnExactPutChain
open Go.RowKit Go.Proofs.YtgindocfjoalhaaW.PrintWords Go.Proofs.YtgindocfjoalhaaW.PrintLast Go.Proofs.YtgindocfjoalhaaW.PrintMore
attribute [local go_sem] max2_int min2_int max_two min_two max_three min_three max_four min_four   -- for this text's walks alone
set_option linter.unusedVariables false
set_option linter.unusedSimpArgs false

attribute [local go_sem high] eqA89
/-! ### spec_SameSet: function 83 -/
def spec_SameSet.l0 : Nat → List (S89) → List (S89) → Int → Option (Bool)
 | 0, _, _, _ => none
 | k + 1, x0, x1, x5 => if x5 < (x0.length : Int) then (if 0 ≤ x5 then (if x5 < (x1.length : Int) then (if (!((((rd_T89 x0 x5).f0).toList) == (((rd_T89 x1 x5).f0).toList)) || (!((((rd_T89 x0 x5).f1).toList) == (((rd_T89 x1 x5).f1).toList)))) = true then (some false) else (spec_SameSet.l0 k x0 x1 (wrap64 (x5 + 1)))) else (none)) else (none)) else (some true)
def spec_SameSet.f (k : Nat) (l0 : List (S89)) (l1 : List (S89)) : Option (Bool) := if (l0.length : Int) = (l1.length : Int) then (spec_SameSet.l0 k l0 l1 0) else (some false)
theorem spec_SameSet.mono_l : ∀ k, (∀ y0 y1 y2, LeO (spec_SameSet.l0 k y0 y1 y2) (spec_SameSet.l0 (k + 1) y0 y1 y2))
 | 0 => fun _ _ _ r h => by simp [spec_SameSet.l0] at h
 | k + 1 => by
  have ih0 := spec_SameSet.mono_l k
  ·intro y0 y1 y2
   unfold spec_SameSet.l0
   repeat' first
   | (with_reducible exact ih0 _ _ _)
   | (with_reducible exact LeO.refl _)
   | (with_reducible exact LeO.none _)
   | (with_reducible refine LeO.ite ?_ ?_)
   | (with_reducible refine LeO.bind ?_ (fun _ => ?_))
   | exact ih0 _ _ _
   | exact LeO.none _
   | refine LeO.ite ?_ ?_
   | refine LeO.bind ?_ (fun _ => ?_)
theorem spec_SameSet.mono : ∀ a0 a1 k, LeO (spec_SameSet.f k a0 a1) (spec_SameSet.f (k + 1) a0 a1) := by
 intro a0 a1 k
 have ih0 := spec_SameSet.mono_l k
 unfold spec_SameSet.f
 repeat' first
   | (with_reducible exact ih0 _ _ _)
   | (with_reducible exact LeO.refl _)
   | (with_reducible exact LeO.none _)
   | (with_reducible refine LeO.ite ?_ ?_)
   | (with_reducible refine LeO.bind ?_ (fun _ => ?_))
   | exact ih0 _ _ _
   | exact LeO.none _
   | refine LeO.ite ?_ ?_
   | refine LeO.bind ?_ (fun _ => ?_)
set_option maxHeartbeats 8000000 in
set_option maxRecDepth 100000 in
theorem spec_SameSet.calls (k : Nat) (A0 : Option Addr) (c0 : Nat) (l0 : List (S89)) (A1 : Option Addr) (c1 : Nat) (l1 : List (S89)) (r : Bool) (w : World) (hr0 : Kd.C k89 w A0 l0.length l0) (hc0 : l0.length ≤ c0) (hr1 : Kd.C k89 w A1 l1.length l1) (hc1 : l1.length ≤ c1) (h : spec_SameSet.f k l0 l1 = some r) :
  Calls Try.prog 83 #[.slice A0 l0.length c0, .slice A1 l1.length c1] w fun e w' => e = .returned (.bool r) ∧ Drawn0 w w' := by
 have hu89 := Try.underlying89
 have HR0 := aM hr0
 have HC0 := aM hc0
 clear hr0 hc0
 have HR1 := aM hr1
 have HC1 := aM hc1
 clear hr1 hc1
 have H : (if (l0.length : Int) = (l1.length : Int) then (spec_SameSet.l0 k l0 l1 0) else (some false)) = some r := h
 clear h
 by_cases c3 : (l0.length : Int) = (l1.length : Int)
 ·rw [if_pos c3] at H
  have c3b0 : ((l0.length : Int) == (l1.length : Int)) = true := beq_iff_eq.mpr c3
  have c3b1 : ((l0.length : Int) != (l1.length : Int)) = false := bne_eq_false_iff_eq.mpr c3
  have c3b2 : (l0.length == l1.length) = true := by first | simpa using c3 | (simp at c3 ⊢; omega)
  clear c3
  have H' := aM H
  clear H
  go_enter Try.func83, Try.ntmps83
  go_wp2
  repeat (go_quiet (fail); try go_wp2)
  go_loopg [5] k (fun kq v5 w' => ∃ (x5_1 : Int), v5 = .int .i64 x5_1 ∧ Aside0 (spec_SameSet.l0 kq l0 l1 x5_1 = some r) ∧ Aside0 (kq ≤ k) ∧ Drawn0 w w')
  case atStart => exact ⟨(0), (by first | rfl | (simp; done) | (simp [*]; done)), H', ⟨Nat.le_refl _⟩, by repeat (first | exact Drawn0.refl _ | apply Drawn0.step)⟩
  case round =>
   clear H'
   try clear c1
   try clear p2
   try clear c3
   try clear c3b0
   try clear c3b1
   try clear c3b2
   obtain ⟨x5_1, rfl, HA, HK1, ⟨m1, rfl⟩⟩ := hrel
   cases gk with
   | zero => exact absurd HA.out (by simp [spec_SameSet.l0])
   | succ k1 =>
    have H := HA.out
    clear HA
    simp only [spec_SameSet.l0] at H
    by_cases c4 : x5_1 < (l0.length : Int)
    ·rw [if_pos c4] at H; have c4b0 : decide (x5_1 < (l0.length : Int)) = true := decide_eq_true c4; clear c4
     by_cases c5 : 0 ≤ x5_1
     ·rw [if_pos c5] at H; have c5b0 : decide (0 ≤ x5_1) = true := decide_eq_true c5; clear c5
      by_cases c6 : x5_1 < (l1.length : Int)
      ·rw [if_pos c6] at H; have c6b0 : decide (x5_1 < (l1.length : Int)) = true := decide_eq_true c6; clear c6
       by_cases c7 : (!((((rd_T89 l0 x5_1).f0).toList) == (((rd_T89 l1 x5_1).f0).toList)) || (!((((rd_T89 l0 x5_1).f1).toList) == (((rd_T89 l1 x5_1).f1).toList)))) = true
       ·rw [if_pos c7] at H
        have c7b0 : (!((((rd_T89 l0 x5_1).f0).toList) == (((rd_T89 l1 x5_1).f0).toList)) || (!((((rd_T89 l0 x5_1).f1).toList) == (((rd_T89 l1 x5_1).f1).toList)))) = true := c7
        clear c7
        obtain rfl := Option.some.inj H
        have p219 : 0 ≤ (x5_1 : Int) := of_decide_eq_true (by first | (with_reducible assumption) | assumption)
        have q219 : x5_1 < (l0.length : Int) := of_decide_eq_true (by first | (with_reducible assumption) | assumption)
        obtain ⟨ad219, e219, hx219_0, hx219_1⟩ := at_T89 HR0.out x5_1 p219 q219
        cases e219
        replace p219 := eq_true p219
        replace q219 := eq_true q219
        have p220 : 0 ≤ (x5_1 : Int) := of_decide_eq_true (by first | (with_reducible assumption) | assumption)
        have q220 : x5_1 < (l1.length : Int) := of_decide_eq_true (by first | (with_reducible assumption) | assumption)
        obtain ⟨ad220, e220, hx220_0, hx220_1⟩ := at_T89 HR1.out x5_1 p220 q220
        cases e220
        replace p220 := eq_true p220
        replace q220 := eq_true q220
        go_wp2
        repeat (go_quiet (fail); try go_wp2)
        go_ret
        exact ⟨by first | rfl | (simp; done) | (simp [*]; done), by repeat (first | exact Drawn0.refl _ | apply Drawn0.step)⟩
       ·rw [if_neg c7] at H
        have c7b0 : (!((((rd_T89 l0 x5_1).f0).toList) == (((rd_T89 l1 x5_1).f0).toList)) || (!((((rd_T89 l0 x5_1).f1).toList) == (((rd_T89 l1 x5_1).f1).toList)))) = false := by simpa using c7
        clear c7
        have H' := aM H
        clear H
        have p219 : 0 ≤ (x5_1 : Int) := of_decide_eq_true (by first | (with_reducible assumption) | assumption)
        have q219 : x5_1 < (l0.length : Int) := of_decide_eq_true (by first | (with_reducible assumption) | assumption)
        obtain ⟨ad219, e219, hx219_0, hx219_1⟩ := at_T89 HR0.out x5_1 p219 q219
        cases e219
        replace p219 := eq_true p219
        replace q219 := eq_true q219
        have p220 : 0 ≤ (x5_1 : Int) := of_decide_eq_true (by first | (with_reducible assumption) | assumption)
        have q220 : x5_1 < (l1.length : Int) := of_decide_eq_true (by first | (with_reducible assumption) | assumption)
        obtain ⟨ad220, e220, hx220_0, hx220_1⟩ := at_T89 HR1.out x5_1 p220 q220
        cases e220
        replace p220 := eq_true p220
        replace q220 := eq_true q220
        go_wp2
        repeat (go_quiet (fail); try go_wp2)
        go_roundg k1
        case measure => have := HK1.out; omega
        case rel => exact ⟨(wrap64 (x5_1 + 1)), (by first | rfl | (simp; done) | (simp [*]; done)), H', ⟨by have := HK1.out; omega⟩, by repeat (first | exact Drawn0.refl _ | apply Drawn0.step)⟩
      ·rw [if_neg c6] at H
       exact absurd H (by simp)
     ·rw [if_neg c5] at H
      exact absurd H (by simp)
    ·rw [if_neg c4] at H; have c4b0 : decide (x5_1 < (l0.length : Int)) = false := decide_eq_false c4; clear c4
     obtain rfl := Option.some.inj H
     go_wp2
     repeat (go_quiet (fail); try go_wp2)
     go_ret
     exact ⟨by first | rfl | (simp; done) | (simp [*]; done), by repeat (first | exact Drawn0.refl _ | apply Drawn0.step)⟩
 ·rw [if_neg c3] at H
  have c3b0 : ((l0.length : Int) == (l1.length : Int)) = false := beq_eq_false_iff_ne.mpr c3
  have c3b1 : ((l0.length : Int) != (l1.length : Int)) = true := bne_iff_ne.mpr c3
  have c3b2 : (l0.length == l1.length) = false := by first | simpa using c3 | (simp at c3 ⊢; omega)
  obtain rfl := Option.some.inj H
  go_enter Try.func83, Try.ntmps83
  go_wp2
  repeat (go_quiet (fail); try go_wp2)
  go_ret
  exact ⟨by first | rfl | (simp; done) | (simp [*]; done), by repeat (first | exact Drawn0.refl _ | apply Drawn0.step)⟩

/-! ### spec_InChain: function 76 -/
def spec_InChain.l0 : Nat → List (S89) → Int → Int → List (S26) → Option (Int)
 | 0, _, _, _, _ => none
 | k + 1, x1, x5, x222000, x222001 => if x5 < (x222001.length : Int) then (if 0 ≤ x5 then ((spec_SameSet.f k ((rd_T26 x222001 x5).f0) x1).bind fun t223 => (if t223 = true then (some x5) else (spec_InChain.l0 k x1 (wrap64 (x5 + 1)) x222000 x222001))) else (none)) else (some (-1))
def spec_InChain.f (k : Nat) (a0_0 : Int) (l0_1 : List (S26)) (l1 : List (S89)) : Option (Int) := spec_InChain.l0 k l1 0 a0_0 l0_1
theorem spec_InChain.mono_l : ∀ k, (∀ y0 y1 y2 y3, LeO (spec_InChain.l0 k y0 y1 y2 y3) (spec_InChain.l0 (k + 1) y0 y1 y2 y3))
 | 0 => fun _ _ _ _ r h => by simp [spec_InChain.l0] at h
 | k + 1 => by
  have ih0 := spec_InChain.mono_l k
  ·intro y0 y1 y2 y3
   unfold spec_InChain.l0
   repeat' first
   | (with_reducible exact ih0 _ _ _ _)
   | (with_reducible exact spec_SameSet.mono _ _ _)
   | (with_reducible exact LeO.refl _)
   | (with_reducible exact LeO.none _)
   | (with_reducible refine LeO.ite ?_ ?_)
   | (with_reducible refine LeO.bind ?_ (fun _ => ?_))
   | exact ih0 _ _ _ _
   | exact spec_SameSet.mono _ _ _
   | exact LeO.none _
   | refine LeO.ite ?_ ?_
   | refine LeO.bind ?_ (fun _ => ?_)
theorem spec_InChain.mono : ∀ a0 a1 a2 k, LeO (spec_InChain.f k a0 a1 a2) (spec_InChain.f (k + 1) a0 a1 a2) := by
 intro a0 a1 a2 k
 have ih0 := spec_InChain.mono_l k
 unfold spec_InChain.f
 repeat' first
   | (with_reducible exact ih0 _ _ _ _)
   | (with_reducible exact spec_SameSet.mono _ _ _)
   | (with_reducible exact LeO.refl _)
   | (with_reducible exact LeO.none _)
   | (with_reducible refine LeO.ite ?_ ?_)
   | (with_reducible refine LeO.bind ?_ (fun _ => ?_))
   | exact ih0 _ _ _ _
   | exact spec_SameSet.mono _ _ _
   | exact LeO.none _
   | refine LeO.ite ?_ ?_
   | refine LeO.bind ?_ (fun _ => ?_)
set_option maxHeartbeats 8000000 in
set_option maxRecDepth 100000 in
theorem spec_InChain.calls (k : Nat) (a0_0 : Int) (A0_1 : Option Addr) (c0_1 : Nat) (l0_1 : List (S26)) (A1 : Option Addr) (c1 : Nat) (l1 : List (S89)) (r : Int) (w : World) (hr0_1 : Kd.C k26 w A0_1 l0_1.length l0_1) (hc0_1 : l0_1.length ≤ c0_1) (hr1 : Kd.C k89 w A1 l1.length l1) (hc1 : l1.length ≤ c1) (h : spec_InChain.f k a0_0 l0_1 l1 = some r) :
  Calls Try.prog 76 #[.agg #[.int .i64 a0_0, .slice A0_1 l0_1.length c0_1], .slice A1 l1.length c1] w fun e w' => e = .returned (.int .i64 r) ∧ Below w.heap.size w w' := by
 have hu39 := Try.underlying39
 have HR0_1 := aM hr0_1
 have HC0_1 := aM hc0_1
 clear hr0_1 hc0_1
 have HR1 := aM hr1
 have HC1 := aM hc1
 clear hr1 hc1
 have HB := aM (Below.refl w.heap.size w)
 have H : (spec_InChain.l0 k l1 0 a0_0 l0_1) = some r := h
 clear h
 have H' := aM H
 clear H
 go_enter Try.func76, Try.ntmps76
 go_wp2_with (first | ((with_reducible refine gate_dst (N := 2) rfl ?_); refine box_event ?hg (N := 2) ?hd (cs := #[.int .i64 a0_0, .slice A0_1 l0_1.length c0_1]) (t := 39) ?hr ?_; (case hd => rfl); (case hg => rfl); (case hr => first | (go_simp; done) | (go_simp; rfl)); intro gb221 hg w3 hbox hb; have n0_ := aM (below_step (by repeat (first | (with_reducible first | exact HB.out | apply aW1 | apply aW2 | apply aW3) | exact HB.out)) hb); have n1_ := aM (hbox); have n2_ := aM ((by rw [hg]; exact (below_size (by repeat (first | (with_reducible first | exact HB.out | apply aW1 | apply aW2 | apply aW3) | exact HB.out))) : w.heap.size ≤ gb221)); have n3_ := aM ((by rw [hg]; exact (below_size (by repeat (first | (with_reducible first | exact HB.out | apply aW1 | apply aW2 | apply aW3) | exact HB.out))) : w.heap.size ≤ gb221)); clear HB; have HB := n0_; have BK221 := n1_; have GW221 := n2_; have GE221 := n3_; clear n0_ n1_ n2_ n3_ hb hbox hg))
 go_loopg [5] k (fun kq v5 w' => ∃ (x5_1 : Int), v5 = .int .i64 x5_1 ∧ Aside0 (spec_InChain.l0 kq l1 x5_1 a0_0 l0_1 = some r) ∧ Aside0 (kq ≤ k) ∧ Aside0 (w'.heap[gb221]? = some (.cells #[.int .i64 a0_0, (.slice A0_1 l0_1.length c0_1)] 39 (0, 0))) ∧ Aside0 (Below w.heap.size w w'))
 case atStart => exact ⟨(0), (by first | rfl | (simp; done) | (simp [*]; done)), H', ⟨Nat.le_refl _⟩, ⟨by (with_reducible repeat (first | refine aB1 ?_ _ | refine aB2 ?_ | refine aB3 ?_ _)); exact BK221.out⟩, ⟨by repeat (first | (with_reducible first | exact HB.out | apply aW1 | apply aW2 | apply aW3 | refine below_set ?_ GE221.out) | exact HB.out)⟩⟩
 case round =>
  clear H'
  try clear c1
  try clear p2
  obtain ⟨x5_1, rfl, HA, HK1, BK221, HB⟩ := hrel
  cases gk with
  | zero => exact absurd HA.out (by simp [spec_InChain.l0])
  | succ k1 =>
   have H := HA.out
   clear HA
   simp only [spec_InChain.l0] at H
   by_cases c4 : x5_1 < (l0_1.length : Int)
   ·rw [if_pos c4] at H; have c4b0 : decide (x5_1 < (l0_1.length : Int)) = true := decide_eq_true c4; clear c4
    by_cases c5 : 0 ≤ x5_1
    ·rw [if_pos c5] at H; have c5b0 : decide (0 ≤ x5_1) = true := decide_eq_true c5; clear c5; replace H := Option.bind_eq_some_iff.mp H; obtain ⟨t223, A60, H⟩ := H; try dsimp only at H
     have A6 := aM A60
     clear A60
     by_cases c7 : t223 = true
     ·subst c7
      have H1 : (some x5_1) = some r := by rw [if_pos rfl] at H; exact H
      clear H
      have H := H1
      clear H1
      obtain rfl := Option.some.inj H
      have hcz8_0 := cz2_0 BK221; have hcz8_1 := cz2_1 BK221; have hfz8_0 := blk_frozen BK221.out 0; have hfz8_1 := blk_frozen BK221.out 1
      have p222 : 0 ≤ (x5_1 : Int) := of_decide_eq_true (by first | (with_reducible assumption) | assumption)
      have q222 : x5_1 < (l0_1.length : Int) := of_decide_eq_true (by first | (with_reducible assumption) | assumption)
      obtain ⟨ad222, A222_0, c222_0, e222, hx222_0, hx222_1, hx222_2, hx222_3, hl222_0, hi222_0⟩ := at_T26 HR0_1.out x5_1 p222 q222
      cases e222
      replace hx222_0 := (HB.out.cell (World.block_lt_of_cell? w _ hx222_0)).trans hx222_0
      replace hx222_1 := (HB.out.cell (World.block_lt_of_cell? w _ hx222_1)).trans hx222_1
      replace hx222_2 := (HB.out.cell (World.block_lt_of_cell? w _ hx222_2)).trans hx222_2
      replace hx222_3 := (HB.out.cell (World.block_lt_of_cell? w _ hx222_3)).trans hx222_3
      have HR222_0 := aM hi222_0
      have HC222_0 := aM hl222_0
      clear hi222_0 hl222_0
      replace p222 := eq_true p222
      replace q222 := eq_true q222
      go_wp2_with (first | ((with_reducible refine gate_callee (f := 83) rfl ?_); refine goesL_ (some 20) rfl rfl Try.func83 (by kernel_rfl) rfl #[.slice A222_0 ((rd_T26 l0_1 x5_1).f0).length c222_0, .slice A1 l1.length c1] rfl (by (try simp only [List.map_toArray, List.map_cons, List.map_nil]); first | done | rfl | (simp only [List.length_drop, List.length_take]; rfl)) ?_; (with_reducible refine (spec_SameSet.calls k1 _ _ ((rd_T26 l0_1 x5_1).f0) _ _ l1 true _ ?side1 ?side2 ?side3 ?side4 A6.out).mono ?_); (case side1 => repeat (first | exact (Kd.C_below HR222_0.out HB.out) | (with_reducible refine Kd.C_alloc ?_ _) | (with_reducible refine Kd.C_drewN ?_ _) | (with_reducible refine Kd.C_drew ?_))); (case side2 => exact HC222_0.out); (case side3 => repeat (first | exact (Kd.C_below HR1.out HB.out) | (with_reducible refine Kd.C_alloc ?_ _) | (with_reducible refine Kd.C_drewN ?_ _) | (with_reducible refine Kd.C_drew ?_))); (case side4 => exact HC1.out); rintro e w' ⟨rfl, ⟨nd, rfl⟩⟩; refine ⟨_, rfl, ?_⟩))
      go_ret
      exact ⟨by first | rfl | (simp [errW_none, errW_some] <;> rfl) | (simp [*, errW_none, errW_some] <;> rfl), by repeat (first | (with_reducible first | exact HB.out | apply aW1 | apply aW2 | apply aW3 | refine below_set ?_ GE221.out) | exact HB.out)⟩
     ·replace c7 := Bool.eq_false_iff.mpr c7
      subst c7
      have H1 : (spec_InChain.l0 k1 l1 (wrap64 (x5_1 + 1)) a0_0 l0_1) = some r := by rw [if_neg (show ¬ (false = true) by decide)] at H; exact H
      clear H
      have H := H1
      clear H1
      have H' := aM H
      clear H; have hcz9_0 := cz2_0 BK221; have hcz9_1 := cz2_1 BK221; have hfz9_0 := blk_frozen BK221.out 0; have hfz9_1 := blk_frozen BK221.out 1
      have p222 : 0 ≤ (x5_1 : Int) := of_decide_eq_true (by first | (with_reducible assumption) | assumption)
      have q222 : x5_1 < (l0_1.length : Int) := of_decide_eq_true (by first | (with_reducible assumption) | assumption)
      obtain ⟨ad222, A222_0, c222_0, e222, hx222_0, hx222_1, hx222_2, hx222_3, hl222_0, hi222_0⟩ := at_T26 HR0_1.out x5_1 p222 q222
      cases e222
      replace hx222_0 := (HB.out.cell (World.block_lt_of_cell? w _ hx222_0)).trans hx222_0
      replace hx222_1 := (HB.out.cell (World.block_lt_of_cell? w _ hx222_1)).trans hx222_1
      replace hx222_2 := (HB.out.cell (World.block_lt_of_cell? w _ hx222_2)).trans hx222_2
      replace hx222_3 := (HB.out.cell (World.block_lt_of_cell? w _ hx222_3)).trans hx222_3
      have HR222_0 := aM hi222_0
      have HC222_0 := aM hl222_0
      clear hi222_0 hl222_0
      replace p222 := eq_true p222
      replace q222 := eq_true q222
      go_wp2_with (first | ((with_reducible refine gate_callee (f := 83) rfl ?_); refine goesL_ (some 20) rfl rfl Try.func83 (by kernel_rfl) rfl #[.slice A222_0 ((rd_T26 l0_1 x5_1).f0).length c222_0, .slice A1 l1.length c1] rfl (by (try simp only [List.map_toArray, List.map_cons, List.map_nil]); first | done | rfl | (simp only [List.length_drop, List.length_take]; rfl)) ?_; (with_reducible refine (spec_SameSet.calls k1 _ _ ((rd_T26 l0_1 x5_1).f0) _ _ l1 false _ ?side1 ?side2 ?side3 ?side4 A6.out).mono ?_); (case side1 => repeat (first | exact (Kd.C_below HR222_0.out HB.out) | (with_reducible refine Kd.C_alloc ?_ _) | (with_reducible refine Kd.C_drewN ?_ _) | (with_reducible refine Kd.C_drew ?_))); (case side2 => exact HC222_0.out); (case side3 => repeat (first | exact (Kd.C_below HR1.out HB.out) | (with_reducible refine Kd.C_alloc ?_ _) | (with_reducible refine Kd.C_drewN ?_ _) | (with_reducible refine Kd.C_drew ?_))); (case side4 => exact HC1.out); rintro e w' ⟨rfl, ⟨nd, rfl⟩⟩; refine ⟨_, rfl, ?_⟩))
      go_roundg k1
      case measure => have := HK1.out; omega
      case rel => exact ⟨(wrap64 (x5_1 + 1)), (by first | rfl | (simp; done) | (simp [*]; done)), H', ⟨by have := HK1.out; omega⟩, ⟨by (with_reducible repeat (first | refine aB1 ?_ _ | refine aB2 ?_ | refine aB3 ?_ _)); exact BK221.out⟩, ⟨by repeat (first | (with_reducible first | exact HB.out | apply aW1 | apply aW2 | apply aW3 | refine below_set ?_ GE221.out) | exact HB.out)⟩⟩
    ·rw [if_neg c5] at H
     exact absurd H (by simp)
   ·rw [if_neg c4] at H; have c4b0 : decide (x5_1 < (l0_1.length : Int)) = false := decide_eq_false c4; clear c4
    obtain rfl := Option.some.inj H
    have hcz10_0 := cz2_0 BK221; have hcz10_1 := cz2_1 BK221; have hfz10_0 := blk_frozen BK221.out 0; have hfz10_1 := blk_frozen BK221.out 1
    go_wp2
    go_ret
    exact ⟨by first | rfl | (simp [errW_none, errW_some] <;> rfl) | (simp [*, errW_none, errW_some] <;> rfl), by repeat (first | (with_reducible first | exact HB.out | apply aW1 | apply aW2 | apply aW3 | refine below_set ?_ GE221.out) | exact HB.out)⟩

/-! ### spec_PutChain: function 36 -/
def spec_PutChain.f (k : Nat) (a0_0 : Int) (l0_1 : List (S26)) (l1_0 : List (S89)) (a1_1 : Int) (a1_2 : Int) (a1_3 : ByteArray) : Option (Int × (List (S26)) × Bool) := (spec_l6Copy.f k a0_0 l0_1).bind fun bt227 => ((spec_InChain.f k a0_0 l0_1 l1_0).bind fun t232 => (if t232 < 0 then ((spec_l4Copy.f l1_0 a1_1 a1_2 a1_3).bind fun bt233 => (if bt227.2.length < 2513169434916 then (some (bt227.1, (bt227.2 ++ [(⟨bt233.1, bt233.2.1, bt233.2.2.1, bt233.2.2.2⟩ : S26)]), true)) else (none))) else (if 0 ≤ t232 then (if t232 < (l0_1.length : Int) then ((spec_Merge.f ((rd_T26 l0_1 t232).f0) ((rd_T26 l0_1 t232).f1) ((rd_T26 l0_1 t232).f2) ((rd_T26 l0_1 t232).f3) l1_0 a1_1 a1_2 a1_3).bind fun bt244 => (if t232 < (bt227.2.length : Int) then (some (bt227.1, (bt227.2.set (t232 : Int).toNat (⟨bt244.1, bt244.2.1, bt244.2.2.1, bt244.2.2.2⟩ : S26)), false)) else (none))) else (none)) else (none))))
theorem spec_PutChain.mono : ∀ a0 a1 a2 a3 a4 a5 k, LeO (spec_PutChain.f k a0 a1 a2 a3 a4 a5) (spec_PutChain.f (k + 1) a0 a1 a2 a3 a4 a5) := by
 intro a0 a1 a2 a3 a4 a5 k
 unfold spec_PutChain.f
 repeat' first
   | (with_reducible exact spec_InChain.mono _ _ _ _)
   | (with_reducible exact spec_l6Copy.mono _ _ _)
   | (with_reducible exact LeO.refl _)
   | (with_reducible exact LeO.none _)
   | (with_reducible refine LeO.ite ?_ ?_)
   | (with_reducible refine LeO.bind ?_ (fun _ => ?_))
   | exact spec_InChain.mono _ _ _ _
   | exact spec_l6Copy.mono _ _ _
   | exact LeO.none _
   | refine LeO.ite ?_ ?_
   | refine LeO.bind ?_ (fun _ => ?_)
def spec_PutChain.T7 : Bool × List (List Nat × List Nat) := (true, [([], []), ([0], [0]), ([], []), ([1, 2], [1, 2]), ([3], [3]), ([], []), ([4, 5], [4, 5]), ([], []), ([7, 6, 6, 0, 1, 2, 3, 4, 5, 6, 7], [6, 7])])
def spec_PutChain.B7 : List Nat := [0, 1, 0, 7, 15, 0, 63, 0, 255]
theorem spec_PutChain.tab7 : rtab .any (opsOf Try.f36 7) = spec_PutChain.T7 := by kernel_rfl
theorem spec_PutChain.bits7 : waitsOk spec_PutChain.T7.2 spec_PutChain.B7 = true := by kernel_rfl
set_option maxHeartbeats 8000000 in
set_option maxRecDepth 100000 in
theorem spec_PutChain.calls (k : Nat) (a0_0 : Int) (A0_1 : Option Addr) (c0_1 : Nat) (l0_1 : List (S26)) (A1_0 : Option Addr) (c1_0 : Nat) (l1_0 : List (S89)) (a1_1 : Int) (a1_2 : Int) (a1_3 : ByteArray) (r1 : Int) (r2 : List (S26)) (r3 : Bool) (w : World) (hr0_1 : Kd.C k26 w A0_1 l0_1.length l0_1) (hc0_1 : l0_1.length ≤ c0_1) (hr1_0 : Kd.C k89 w A1_0 l1_0.length l1_0) (hc1_0 : l1_0.length ≤ c1_0) (h : spec_PutChain.f k a0_0 l0_1 l1_0 a1_1 a1_2 a1_3 = some (r1, r2, r3)) :
  Calls Try.prog 36 #[.agg #[.int .i64 a0_0, .slice A0_1 l0_1.length c0_1], .agg #[.slice A1_0 l1_0.length c1_0, .int .i64 a1_1, .int .i64 a1_2, .string a1_3]] w fun e w' => ∃ v1_ : Value, e = .returned (.tuple #[.agg #[.int .i64 r1, v1_], .bool r3]) ∧ Kd.S k26 26 w' w.heap.size (fun _ => True) v1_ r2 ∧ Below w.heap.size w w' := by
 have hu39 := Try.underlying39
 have hu26 := Try.underlying26
 have HR0_1 := aM hr0_1
 have HC0_1 := aM hc0_1
 clear hr0_1 hc0_1
 have HR1_0 := aM hr1_0
 have HC1_0 := aM hc1_0
 clear hr1_0 hc1_0
 have HB := aM (Below.refl w.heap.size w)
 have H : ((spec_l6Copy.f k a0_0 l0_1).bind fun bt227 => ((spec_InChain.f k a0_0 l0_1 l1_0).bind fun t232 => (if t232 < 0 then ((spec_l4Copy.f l1_0 a1_1 a1_2 a1_3).bind fun bt233 => (if bt227.2.length < 2513169434916 then (some (bt227.1, (bt227.2 ++ [(⟨bt233.1, bt233.2.1, bt233.2.2.1, bt233.2.2.2⟩ : S26)]), true)) else (none))) else (if 0 ≤ t232 then (if t232 < (l0_1.length : Int) then ((spec_Merge.f ((rd_T26 l0_1 t232).f0) ((rd_T26 l0_1 t232).f1) ((rd_T26 l0_1 t232).f2) ((rd_T26 l0_1 t232).f3) l1_0 a1_1 a1_2 a1_3).bind fun bt244 => (if t232 < (bt227.2.length : Int) then (some (bt227.1, (bt227.2.set (t232 : Int).toNat (⟨bt244.1, bt244.2.1, bt244.2.2.1, bt244.2.2.2⟩ : S26)), false)) else (none))) else (none)) else (none))))) = some (r1, r2, r3) := h
 clear h; replace H := Option.bind_eq_some_iff.mp H
 obtain ⟨⟨t227, t228⟩, A30, H⟩ := H
 try dsimp only at H
 have A3 := aM A30
 clear A30; replace H := Option.bind_eq_some_iff.mp H; obtain ⟨t232, A40, H⟩ := H; try dsimp only at H
 have A4 := aM A40
 clear A40
 by_cases c5 : t232 < 0
 ·rw [if_pos c5] at H; have c5b0 : decide (t232 < 0) = true := decide_eq_true c5; clear c5; replace H := Option.bind_eq_some_iff.mp H
  obtain ⟨⟨t233, t236, t237, t238⟩, A60, H⟩ := H
  try dsimp only at H
  have A6 := aM A60
  clear A60
  by_cases c7 : t228.length < 2513169434916
  ·rw [if_pos c7] at H
   have LMc7 := aM c7
   clear c7
   obtain ⟨y240, hy240⟩ : ∃ y_ : List (S26), y_ = (t228 ++ [(⟨t233, t236, t237, t238⟩ : S26)]) := ⟨_, rfl⟩
   replace H : (some (t227, y240, true)) = some (r1, r2, r3) := by first | (rw [hy240]; with_reducible exact H) | (have H2_ := (Option.bind_some _ _).symm.trans H; rw [hy240]; with_reducible exact H2_) | (have H2_ := (Option.bind_some _ _).symm.trans H; with_reducible exact H2_) | with_reducible exact H | (rw [hy240]; exact H) | exact H
   have Ny240 := aM hy240
   clear hy240
   simp only [Option.some.injEq, Prod.mk.injEq] at H
   obtain ⟨rfl, rfl, rfl⟩ := H
   go_enter Try.func36, Try.ntmps36
   go_wp2_with (first | ((with_reducible refine gate_dst (N := 2) rfl ?_); refine box_event ?hg (N := 2) ?hd (cs := #[.int .i64 a0_0, .slice A0_1 l0_1.length c0_1]) (t := 39) ?hr ?_; (case hd => rfl); (case hg => rfl); (case hr => first | (go_simp; done) | (go_simp; rfl)); intro gb224 hg w8 hbox hb; have n0_ := aM (below_step (by repeat (first | (with_reducible first | exact HB.out | apply aW1 | apply aW2 | apply aW3) | exact HB.out)) hb); have n1_ := aM (hbox); have n2_ := aM ((by rw [hg]; exact (below_size (by repeat (first | (with_reducible first | exact HB.out | apply aW1 | apply aW2 | apply aW3) | exact HB.out))) : w.heap.size ≤ gb224)); have n3_ := aM ((by rw [hg]; exact (below_size (by repeat (first | (with_reducible first | exact HB.out | apply aW1 | apply aW2 | apply aW3) | exact HB.out))) : w.heap.size ≤ gb224)); clear HB; have HB := n0_; have BK224 := n1_; have GW224 := n2_; have GE224 := n3_; clear n0_ n1_ n2_ n3_ hb hbox hg) | ((with_reducible refine gate_dst (N := 3) rfl ?_); refine box_event ?hg (N := 3) ?hd (cs := #[.slice A1_0 l1_0.length c1_0, .int .i64 a1_1, .int .i64 a1_2, .string a1_3]) (t := 26) ?hr ?_; (case hd => rfl); (case hg => rfl); (case hr => first | (go_simp; done) | (go_simp; rfl)); intro gb225 hg w9 hbox hb; have n0_ := bb BK224 hb; have n1_ := aM (below_step (by repeat (first | (with_reducible first | exact HB.out | apply aW1 | apply aW2 | apply aW3 | refine below_set ?_ GE224.out) | exact HB.out)) hb); have n2_ := aM (hbox); have n3_ := aM ((by rw [hg]; exact (below_size (by repeat (first | (with_reducible first | exact HB.out | apply aW1 | apply aW2 | apply aW3 | refine below_set ?_ GE224.out) | exact HB.out))) : w.heap.size ≤ gb225)); have n4_ := aM ((by rw [hg]; exact (below_size (by repeat (first | (with_reducible first | exact HB.out | apply aW1 | apply aW2 | apply aW3 | refine below_set ?_ GE224.out) | exact HB.out))) : w.heap.size ≤ gb225)); have n5_ := aM ((by rw [hg]; exact Nat.ne_of_lt (blk_lt (g := gb224) (aB BK224)) : gb224 ≠ gb225)); have n6_ := aM ((by rw [hg]; exact Nat.ne_of_gt (blk_lt (g := gb224) (aB BK224)) : gb225 ≠ gb224)); clear BK224 HB; have BK224 := n0_; have HB := n1_; have BK225 := n2_; have GW225 := n3_; have GE225 := n4_; have NB224_225 := n5_; have NB225_224 := n6_; clear n0_ n1_ n2_ n3_ n4_ n5_ n6_ hb hbox hg) | ((with_reducible refine gate_dst (N := 4) rfl ?_); refine box_event ?hg (N := 4) ?hd (cs := #[.int .i64 0, .slice none 0 0]) (t := 39) ?hr ?_; (case hd => rfl); (case hg => rfl); (case hr => first | (go_simp; done) | (go_simp; rfl)); intro gb226 hg w10 hbox hb; have n0_ := bb BK224 hb; have n1_ := bb BK225 hb; have n2_ := aM (below_step (by repeat (first | (with_reducible first | exact HB.out | apply aW1 | apply aW2 | apply aW3 | refine below_set ?_ GE224.out | refine below_set ?_ GE225.out) | exact HB.out)) hb); have n3_ := aM (hbox); have n4_ := aM ((by rw [hg]; exact (below_size (by repeat (first | (with_reducible first | exact HB.out | apply aW1 | apply aW2 | apply aW3 | refine below_set ?_ GE224.out | refine below_set ?_ GE225.out) | exact HB.out))) : w.heap.size ≤ gb226)); have n5_ := aM ((by rw [hg]; exact (below_size (by repeat (first | (with_reducible first | exact HB.out | apply aW1 | apply aW2 | apply aW3 | refine below_set ?_ GE224.out | refine below_set ?_ GE225.out) | exact HB.out))) : w.heap.size ≤ gb226)); have n6_ := aM ((by rw [hg]; exact Nat.ne_of_lt (blk_lt (g := gb224) (aB BK224)) : gb224 ≠ gb226)); have n7_ := aM ((by rw [hg]; exact Nat.ne_of_gt (blk_lt (g := gb224) (aB BK224)) : gb226 ≠ gb224)); have n8_ := aM ((by rw [hg]; exact Nat.ne_of_lt (blk_lt (g := gb225) (aB BK225)) : gb225 ≠ gb226)); have n9_ := aM ((by rw [hg]; exact Nat.ne_of_gt (blk_lt (g := gb225) (aB BK225)) : gb226 ≠ gb225)); clear BK224 BK225 HB; have BK224 := n0_; have BK225 := n1_; have HB := n2_; have BK226 := n3_; have GW226 := n4_; have GE226 := n5_; have NB224_226 := n6_; have NB226_224 := n7_; have NB225_226 := n8_; have NB226_225 := n9_; clear n0_ n1_ n2_ n3_ n4_ n5_ n6_ n7_ n8_ n9_ hb hbox hg; have hnb11 := NB224_225.out; have hnc11 := NB225_224.out; have hnb12 := NB224_226.out; have hnc12 := NB226_224.out; have hcz13_0 := cz2_0 BK224; have hcz13_1 := cz2_1 BK224; have hfz13_0 := blk_frozen BK224.out 0; have hfz13_1 := blk_frozen BK224.out 1) | ((with_reducible refine gate_callee (f := 75) rfl ?_); refine goesL_ (some 11) rfl rfl Try.func75 (by kernel_rfl) rfl #[.agg #[.int .i64 a0_0, .slice A0_1 l0_1.length c0_1]] rfl (by (try simp only [List.map_toArray, List.map_cons, List.map_nil]); first | done | rfl | (simp only [List.length_drop, List.length_take]; rfl)) ?_; (with_reducible refine (spec_l6Copy.calls k a0_0 _ _ l0_1 t227 t228 _ ?side1 ?side2 A3.out).mono ?_); (case side1 => repeat (first | exact (Kd.C_below HR0_1.out HB.out) | (with_reducible refine Kd.C_alloc ?_ _) | (with_reducible refine Kd.C_drewN ?_ _) | (with_reducible refine Kd.C_drew ?_))); (case side2 => exact HC0_1.out); rintro e w14 ⟨v229, rfl, ho0, hb⟩; refine ⟨_, rfl, ?_⟩; have n0_ := aM (Kd.S_lower (Kd.S_newB ho0 (g := gb225) (aB BK225)) (below_size (by repeat (first | (with_reducible first | exact HB.out | apply aW1 | apply aW2 | apply aW3 | refine below_set ?_ GE224.out | refine below_set ?_ GE225.out | refine below_set ?_ GE226.out) | exact HB.out)))); have n1_ := bb BK224 hb; have n2_ := bb BK225 hb; have n3_ := bb BK226 hb; have n4_ := aM (below_step (by repeat (first | (with_reducible first | exact HB.out | apply aW1 | apply aW2 | apply aW3 | refine below_set ?_ GE224.out | refine below_set ?_ GE225.out | refine below_set ?_ GE226.out) | exact HB.out)) hb); clear BK224 BK225 BK226 HB; have HO230 := n0_; have BK224 := n1_; have BK225 := n2_; have BK226 := n3_; have HB := n4_; clear n0_ n1_ n2_ n3_ n4_; (try clear hb); (try clear hb2); (try clear hk); (try clear hi); (try clear ho0)) | ((with_reducible refine gate_dst (N := 6) rfl ?_); refine box_event ?hg (N := 6) ?hd (cs := #[.int .i64 0, .slice none 0 0]) (t := 39) ?hr ?_; (case hd => rfl); (case hg => rfl); (case hr => first | (go_simp; done) | (go_simp; rfl)); intro gb231 hg w15 hbox hb; have n0_ := aM (Kd.S_below (by (with_reducible repeat (first | apply Kd.S_alloc | apply Kd.S_drewN | apply Kd.S_drew)); exact HO230.out) hb); have n1_ := bb BK224 hb; have n2_ := bb BK225 hb; have n3_ := bb BK226 hb; have n4_ := aM (below_step (by repeat (first | (with_reducible first | exact HB.out | apply aW1 | apply aW2 | apply aW3 | refine below_set ?_ GE224.out | refine below_set ?_ GE225.out | refine below_set ?_ GE226.out) | exact HB.out)) hb); have n5_ := aM (hbox); have n6_ := aM ((by rw [hg]; exact (below_size (by repeat (first | (with_reducible first | exact HB.out | apply aW1 | apply aW2 | apply aW3 | refine below_set ?_ GE224.out | refine below_set ?_ GE225.out | refine below_set ?_ GE226.out) | exact HB.out))) : w.heap.size ≤ gb231)); have n7_ := aM ((by rw [hg]; exact (below_size (by repeat (first | (with_reducible first | exact HB.out | apply aW1 | apply aW2 | apply aW3 | refine below_set ?_ GE224.out | refine below_set ?_ GE225.out | refine below_set ?_ GE226.out) | exact HB.out))) : w.heap.size ≤ gb231)); have n8_ := aM ((by rw [hg]; exact Nat.ne_of_lt (blk_lt (g := gb224) (aB BK224)) : gb224 ≠ gb231)); have n9_ := aM ((by rw [hg]; exact Nat.ne_of_gt (blk_lt (g := gb224) (aB BK224)) : gb231 ≠ gb224)); have n10_ := aM ((by rw [hg]; exact Nat.ne_of_lt (blk_lt (g := gb225) (aB BK225)) : gb225 ≠ gb231)); have n11_ := aM ((by rw [hg]; exact Nat.ne_of_gt (blk_lt (g := gb225) (aB BK225)) : gb231 ≠ gb225)); have n12_ := aM ((by rw [hg]; exact Nat.ne_of_lt (blk_lt (g := gb226) (aB BK226)) : gb226 ≠ gb231)); have n13_ := aM ((by rw [hg]; exact Nat.ne_of_gt (blk_lt (g := gb226) (aB BK226)) : gb231 ≠ gb226)); clear HO230 BK224 BK225 BK226 HB; have HO230 := n0_; have BK224 := n1_; have BK225 := n2_; have BK226 := n3_; have HB := n4_; have BK231 := n5_; have GW231 := n6_; have GE231 := n7_; have NB224_231 := n8_; have NB231_224 := n9_; have NB225_231 := n10_; have NB231_225 := n11_; have NB226_231 := n12_; have NB231_226 := n13_; clear n0_ n1_ n2_ n3_ n4_ n5_ n6_ n7_ n8_ n9_ n10_ n11_ n12_ n13_ hb hbox hg; have hnb16 := NB231_224.out; have hnc16 := NB224_231.out; have hnb17 := NB231_225.out; have hnc17 := NB225_231.out; have hnb18 := NB231_226.out; have hnc18 := NB226_231.out; have hcz19_0 := cz2_0 BK231; have hcz19_1 := cz2_1 BK231; have hfz19_0 := blk_frozen BK231.out 0; have hfz19_1 := blk_frozen BK231.out 1; obtain ⟨Ao20, co20, eo20⟩ := Kd.S_slice HO230.out; subst eo20; have hcz21_0 := cz2_0 BK224; have hcz21_1 := cz2_1 BK224; have hfz21_0 := blk_frozen BK224.out 0; have hfz21_1 := blk_frozen BK224.out 1; have hnb22 := NB225_226.out; have hnc22 := NB226_225.out; have hcz23_0 := cz4_0 BK225; have hcz23_1 := cz4_1 BK225; have hcz23_2 := cz4_2 BK225; have hcz23_3 := cz4_3 BK225; have hfz23_0 := blk_frozen BK225.out 0; have hfz23_1 := blk_frozen BK225.out 1; have hfz23_2 := blk_frozen BK225.out 2; have hfz23_3 := blk_frozen BK225.out 3) | ((with_reducible refine gate_callee (f := 76) rfl ?_); refine goesL_ (some 15) rfl rfl Try.func76 (by kernel_rfl) rfl #[.agg #[.int .i64 a0_0, .slice A0_1 l0_1.length c0_1], .slice A1_0 l1_0.length c1_0] rfl (by (try simp only [List.map_toArray, List.map_cons, List.map_nil]); first | done | rfl | (simp only [List.length_drop, List.length_take]; rfl)) ?_; (with_reducible refine (spec_InChain.calls k a0_0 _ _ l0_1 _ _ l1_0 t232 _ ?side1 ?side2 ?side3 ?side4 A4.out).mono ?_); (case side1 => exact Kd.C_below HR0_1.out (by repeat (first | (with_reducible first | exact HB.out | apply aW1 | apply aW2 | apply aW3 | refine below_set ?_ GE224.out | refine below_set ?_ GE225.out | refine below_set ?_ GE226.out | refine below_set ?_ GE231.out) | exact HB.out))); (case side2 => exact HC0_1.out); (case side3 => exact Kd.C_below HR1_0.out (by repeat (first | (with_reducible first | exact HB.out | apply aW1 | apply aW2 | apply aW3 | refine below_set ?_ GE224.out | refine below_set ?_ GE225.out | refine below_set ?_ GE226.out | refine below_set ?_ GE231.out) | exact HB.out))); (case side4 => exact HC1_0.out); rintro e w24 ⟨rfl, hb⟩; refine ⟨_, rfl, ?_⟩; have n0_ := aM (Kd.S_below (by (with_reducible repeat (first | apply Kd.S_alloc | apply Kd.S_drewN | apply Kd.S_drew)); exact (Kd.S_mono (Kd.S_far (p := ⟨gb231, 1, none⟩) (Kd.S_far (p := ⟨gb231, 0, none⟩) (Kd.S_types HO230.out BK231.out (by decide)) (fun _ hk => hk.2) (.int .i64 t227)) (fun _ hk => hk.2) (.slice Ao20 t228.length co20)) (fun _ h_ => h_.1))) hb); have n1_ := aM (blk_below (g := gb224) (o := .cells #[.int .i64 a0_0, .slice A0_1 l0_1.length c0_1] 39 (0, 0)) (by (with_reducible repeat (first | refine aB1 ?_ _ | refine aB2 ?_ | refine aB3 ?_ _)); refine blk_far ?_ NB224_231.out _; (with_reducible repeat (first | refine aB1 ?_ _ | refine aB2 ?_ | refine aB3 ?_ _)); refine blk_far ?_ NB224_231.out _; (with_reducible repeat (first | refine aB1 ?_ _ | refine aB2 ?_ | refine aB3 ?_ _)); exact BK224.out) hb); have n2_ := aM (blk_below (g := gb225) (o := .cells #[.slice A1_0 l1_0.length c1_0, .int .i64 a1_1, .int .i64 a1_2, .string a1_3] 26 (0, 0)) (by (with_reducible repeat (first | refine aB1 ?_ _ | refine aB2 ?_ | refine aB3 ?_ _)); refine blk_far ?_ NB225_231.out _; (with_reducible repeat (first | refine aB1 ?_ _ | refine aB2 ?_ | refine aB3 ?_ _)); refine blk_far ?_ NB225_231.out _; (with_reducible repeat (first | refine aB1 ?_ _ | refine aB2 ?_ | refine aB3 ?_ _)); exact BK225.out) hb); have n3_ := aM (blk_below (g := gb226) (o := .cells #[.int .i64 0, .slice none 0 0] 39 (0, 0)) (by (with_reducible repeat (first | refine aB1 ?_ _ | refine aB2 ?_ | refine aB3 ?_ _)); refine blk_far ?_ NB226_231.out _; (with_reducible repeat (first | refine aB1 ?_ _ | refine aB2 ?_ | refine aB3 ?_ _)); refine blk_far ?_ NB226_231.out _; (with_reducible repeat (first | refine aB1 ?_ _ | refine aB2 ?_ | refine aB3 ?_ _)); exact BK226.out) hb); have n4_ := aM (blk_below (g := gb231) (o := .cells #[.int .i64 t227, .slice Ao20 t228.length co20] 39 (0, 0)) (by (with_reducible repeat (first | refine aB1 ?_ _ | refine aB2 ?_ | refine aB3 ?_ _)); refine blk_put (cs := #[.int .i64 t227, .slice none 0 0]) ?_ 1 _ rfl; (with_reducible repeat (first | refine aB1 ?_ _ | refine aB2 ?_ | refine aB3 ?_ _)); refine blk_put (cs := #[.int .i64 0, .slice none 0 0]) ?_ 0 _ rfl; (with_reducible repeat (first | refine aB1 ?_ _ | refine aB2 ?_ | refine aB3 ?_ _)); exact BK231.out) hb); have n5_ := aM (below_step (by repeat (first | (with_reducible first | exact HB.out | apply aW1 | apply aW2 | apply aW3 | refine below_set ?_ GE224.out | refine below_set ?_ GE225.out | refine below_set ?_ GE226.out | refine below_set ?_ GE231.out) | exact HB.out)) hb); clear HO230 BK224 BK225 BK226 BK231 HB; have HO230 := n0_; have BK224 := n1_; have BK225 := n2_; have BK226 := n3_; have BK231 := n4_; have HB := n5_; clear n0_ n1_ n2_ n3_ n4_ n5_; (try clear hb); (try clear hb2); (try clear hk); (try clear hi); have hcz25_0 := cz4_0 BK225; have hcz25_1 := cz4_1 BK225; have hcz25_2 := cz4_2 BK225; have hcz25_3 := cz4_3 BK225; have hfz25_0 := blk_frozen BK225.out 0; have hfz25_1 := blk_frozen BK225.out 1; have hfz25_2 := blk_frozen BK225.out 2; have hfz25_3 := blk_frozen BK225.out 3) | ((with_reducible refine gate_callee (f := 58) rfl ?_); refine goesL_ (some 19) rfl rfl Try.func58 (by kernel_rfl) rfl #[.agg #[.slice A1_0 l1_0.length c1_0, .int .i64 a1_1, .int .i64 a1_2, .string a1_3]] rfl (by (try simp only [List.map_toArray, List.map_cons, List.map_nil]); first | done | rfl | (simp only [List.length_drop, List.length_take]; rfl)) ?_; (with_reducible refine (spec_l4Copy.calls _ _ l1_0 a1_1 a1_2 a1_3 t233 t236 t237 t238 _ ?side1 ?side2 A6.out).mono ?_); (case side1 => repeat (first | exact (Kd.C_below HR1_0.out HB.out) | (with_reducible refine Kd.C_alloc ?_ _) | (with_reducible refine Kd.C_drewN ?_ _) | (with_reducible refine Kd.C_drew ?_))); (case side2 => exact HC1_0.out); rintro e w26 ⟨v234, rfl, ho0, hb⟩; refine ⟨_, rfl, ?_⟩; have n0_ := aM (Kd.S_elder' (by (with_reducible repeat (first | apply Kd.S_alloc | apply Kd.S_drewN | apply Kd.S_drew)); exact HO230.out) (Kd.R_base ho0) hb); have n1_ := aM (Kd.R_lower ho0 (below_size (by repeat (first | (with_reducible first | exact HB.out | apply aW1 | apply aW2 | apply aW3 | refine below_set ?_ GE224.out | refine below_set ?_ GE225.out | refine below_set ?_ GE226.out | refine below_set ?_ GE231.out) | exact HB.out)))); have n2_ := bb BK224 hb; have n3_ := bb BK225 hb; have n4_ := bb BK226 hb; have n5_ := bb BK231 hb; have n6_ := aM (below_step (by repeat (first | (with_reducible first | exact HB.out | apply aW1 | apply aW2 | apply aW3 | refine below_set ?_ GE224.out | refine below_set ?_ GE225.out | refine below_set ?_ GE226.out | refine below_set ?_ GE231.out) | exact HB.out)) hb); clear HO230 BK224 BK225 BK226 BK231 HB; have HO230 := n0_; have HO235 := n1_; have BK224 := n2_; have BK225 := n3_; have BK226 := n4_; have BK231 := n5_; have HB := n6_; clear n0_ n1_ n2_ n3_ n4_ n5_ n6_; (try clear hb); (try clear hb2); (try clear hk); (try clear hi); (try clear ho0)) | ((with_reducible refine gate_dst (N := 8) rfl ?_); refine box_event ?hg (N := 8) ?hd (cs := #[.slice none 0 0, .int .i64 0, .int .i64 0, .string (⟨#[]⟩ : ByteArray)]) (t := 26) ?hr ?_; (case hd => rfl); (case hg => rfl); (case hr => first | (go_simp; done) | (go_simp; rfl)); intro gb239 hg w27 hbox hb; have n0_ := aM (Kd.S_below (Kd.S_elderB (by (with_reducible repeat (first | apply Kd.S_alloc | apply Kd.S_drewN | apply Kd.S_drew)); exact HO230.out) gb239 (Nat.le_of_eq hg.symm)) hb); have n1_ := rb HO235 hb; have n2_ := bb BK224 hb; have n3_ := bb BK225 hb; have n4_ := bb BK226 hb; have n5_ := bb BK231 hb; have n6_ := aM (below_step (by repeat (first | (with_reducible first | exact HB.out | apply aW1 | apply aW2 | apply aW3 | refine below_set ?_ GE224.out | refine below_set ?_ GE225.out | refine below_set ?_ GE226.out | refine below_set ?_ GE231.out) | exact HB.out)) hb); have n7_ := aM (hbox); have n8_ := aM ((by rw [hg]; exact (below_size (by repeat (first | (with_reducible first | exact HB.out | apply aW1 | apply aW2 | apply aW3 | refine below_set ?_ GE224.out | refine below_set ?_ GE225.out | refine below_set ?_ GE226.out | refine below_set ?_ GE231.out) | exact HB.out))) : w.heap.size ≤ gb239)); have n9_ := aM ((by rw [hg]; exact (below_size (by repeat (first | (with_reducible first | exact HB.out | apply aW1 | apply aW2 | apply aW3 | refine below_set ?_ GE224.out | refine below_set ?_ GE225.out | refine below_set ?_ GE226.out | refine below_set ?_ GE231.out) | exact HB.out))) : w.heap.size ≤ gb239)); have n10_ := aM ((by rw [hg]; exact Nat.ne_of_lt (blk_lt (g := gb224) (aB BK224)) : gb224 ≠ gb239)); have n11_ := aM ((by rw [hg]; exact Nat.ne_of_gt (blk_lt (g := gb224) (aB BK224)) : gb239 ≠ gb224)); have n12_ := aM ((by rw [hg]; exact Nat.ne_of_lt (blk_lt (g := gb225) (aB BK225)) : gb225 ≠ gb239)); have n13_ := aM ((by rw [hg]; exact Nat.ne_of_gt (blk_lt (g := gb225) (aB BK225)) : gb239 ≠ gb225)); have n14_ := aM ((by rw [hg]; exact Nat.ne_of_lt (blk_lt (g := gb226) (aB BK226)) : gb226 ≠ gb239)); have n15_ := aM ((by rw [hg]; exact Nat.ne_of_gt (blk_lt (g := gb226) (aB BK226)) : gb239 ≠ gb226)); have n16_ := aM ((by rw [hg]; exact Nat.ne_of_lt (blk_lt (g := gb231) (aB BK231)) : gb231 ≠ gb239)); have n17_ := aM ((by rw [hg]; exact Nat.ne_of_gt (blk_lt (g := gb231) (aB BK231)) : gb239 ≠ gb231)); clear HO230 HO235 BK224 BK225 BK226 BK231 HB; have HO230 := n0_; have HO235 := n1_; have BK224 := n2_; have BK225 := n3_; have BK226 := n4_; have BK231 := n5_; have HB := n6_; have BK239 := n7_; have GW239 := n8_; have GE239 := n9_; have NB224_239 := n10_; have NB239_224 := n11_; have NB225_239 := n12_; have NB239_225 := n13_; have NB226_239 := n14_; have NB239_226 := n15_; have NB231_239 := n16_; have NB239_231 := n17_; clear n0_ n1_ n2_ n3_ n4_ n5_ n6_ n7_ n8_ n9_ n10_ n11_ n12_ n13_ n14_ n15_ n16_ n17_ hb hbox hg; obtain ⟨Ao28, co28, eo28⟩ := Kd.R_slice HO235.out; subst eo28; have hnb29 := NB239_224.out; have hnc29 := NB224_239.out; have hnb30 := NB239_225.out; have hnc30 := NB225_239.out; have hnb31 := NB239_226.out; have hnc31 := NB226_239.out; have hnb32 := NB239_231.out; have hnc32 := NB231_239.out; have hcz33_0 := cz4_0 BK239; have hcz33_1 := cz4_1 BK239; have hcz33_2 := cz4_2 BK239; have hcz33_3 := cz4_3 BK239; have hfz33_0 := blk_frozen BK239.out 0; have hfz33_1 := blk_frozen BK239.out 1; have hfz33_2 := blk_frozen BK239.out 2; have hfz33_3 := blk_frozen BK239.out 3) | ((with_reducible refine gate_store (t := 26) (p := 8) rfl ?_); refine store_event (t := 26) (p := 8) (v := ?vo_w34) (w1 := ((((w27.setCell ⟨gb239, 0, none⟩ (.slice Ao28 t233.length co28)).setCell ⟨gb239, 1, none⟩ (.int .i64 t236)).setCell ⟨gb239, 2, none⟩ (.int .i64 t237)).setCell ⟨gb239, 3, none⟩ (.string t238))) ?hg ?ho ?hn ?hr ?_; (case ho => rfl); (case hg => rfl); (case hn => rfl); (case hr => first | (go_simp; done) | (go_simp; rfl)); intro w34 hw; have n0_ : Aside0 (Kd.S k26 26 w34 w.heap.size (fun k_ => some k_ ≠ (.slice Ao28 t233.length co28 : Value).ownBlock ∧ k_ ≠ gb225 ∧ k_ ≠ gb239) (.slice Ao20 t228.length co20) t228) := ⟨(by rw [hw]; exact (by (with_reducible repeat (first | apply Kd.S_alloc | apply Kd.S_drewN | apply Kd.S_drew)); exact Kd.S_mono (Kd.S_far (p := ⟨gb239, 3, none⟩) (Kd.S_far (p := ⟨gb239, 2, none⟩) (Kd.S_far (p := ⟨gb239, 1, none⟩) (Kd.S_far (p := ⟨gb239, 0, none⟩) (Kd.S_mono HO230.out (fun k_ hk => (⟨hk, hk.2⟩ : _ ∧ k_ ≠ gb239))) (fun _ hk => hk.2) (.slice Ao28 t233.length co28)) (fun _ hk => hk.2) (.int .i64 t236)) (fun _ hk => hk.2) (.int .i64 t237)) (fun _ hk => hk.2) (.string t238)) (fun _ hk => ⟨hk.1.1.2, ⟨hk.1.1.1.2, hk.1.2⟩⟩)))⟩; have n1_ : Aside0 (Kd.R k89 89 w34 w.heap.size (fun _ => True) (.slice Ao28 t233.length co28) t233) := ⟨(by rw [hw]; exact (by (with_reducible repeat (first | apply aR1 | apply aR2 | apply aR3)); exact Kd.R_mono (Kd.R_far (p := ⟨gb239, 3, none⟩) (Kd.R_far (p := ⟨gb239, 2, none⟩) (Kd.R_far (p := ⟨gb239, 1, none⟩) (Kd.R_far (p := ⟨gb239, 0, none⟩) (Kd.R_types HO235.out BK239.out (by decide)) (fun _ hk => hk.2) (.slice Ao28 t233.length co28)) (fun _ hk => hk.2) (.int .i64 t236)) (fun _ hk => hk.2) (.int .i64 t237)) (fun _ hk => hk.2) (.string t238)) (fun _ hk => trivial)))⟩; have n2_ : Aside0 (w34.heap[gb224]? = some (.cells #[.int .i64 a0_0, .slice A0_1 l0_1.length c0_1] 39 (0, 0))) := ⟨(by rw [hw]; exact (by (with_reducible repeat (first | refine aB1 ?_ _ | refine aB2 ?_ | refine aB3 ?_ _)); refine blk_far ?_ NB224_239.out _; (with_reducible repeat (first | refine aB1 ?_ _ | refine aB2 ?_ | refine aB3 ?_ _)); refine blk_far ?_ NB224_239.out _; (with_reducible repeat (first | refine aB1 ?_ _ | refine aB2 ?_ | refine aB3 ?_ _)); refine blk_far ?_ NB224_239.out _; (with_reducible repeat (first | refine aB1 ?_ _ | refine aB2 ?_ | refine aB3 ?_ _)); refine blk_far ?_ NB224_239.out _; (with_reducible repeat (first | refine aB1 ?_ _ | refine aB2 ?_ | refine aB3 ?_ _)); exact BK224.out))⟩; have n3_ : Aside0 (w34.heap[gb225]? = some (.cells #[.slice A1_0 l1_0.length c1_0, .int .i64 a1_1, .int .i64 a1_2, .string a1_3] 26 (0, 0))) := ⟨(by rw [hw]; exact (by (with_reducible repeat (first | refine aB1 ?_ _ | refine aB2 ?_ | refine aB3 ?_ _)); refine blk_far ?_ NB225_239.out _; (with_reducible repeat (first | refine aB1 ?_ _ | refine aB2 ?_ | refine aB3 ?_ _)); refine blk_far ?_ NB225_239.out _; (with_reducible repeat (first | refine aB1 ?_ _ | refine aB2 ?_ | refine aB3 ?_ _)); refine blk_far ?_ NB225_239.out _; (with_reducible repeat (first | refine aB1 ?_ _ | refine aB2 ?_ | refine aB3 ?_ _)); refine blk_far ?_ NB225_239.out _; (with_reducible repeat (first | refine aB1 ?_ _ | refine aB2 ?_ | refine aB3 ?_ _)); exact BK225.out))⟩; have n4_ : Aside0 (w34.heap[gb226]? = some (.cells #[.int .i64 0, .slice none 0 0] 39 (0, 0))) := ⟨(by rw [hw]; exact (by (with_reducible repeat (first | refine aB1 ?_ _ | refine aB2 ?_ | refine aB3 ?_ _)); refine blk_far ?_ NB226_239.out _; (with_reducible repeat (first | refine aB1 ?_ _ | refine aB2 ?_ | refine aB3 ?_ _)); refine blk_far ?_ NB226_239.out _; (with_reducible repeat (first | refine aB1 ?_ _ | refine aB2 ?_ | refine aB3 ?_ _)); refine blk_far ?_ NB226_239.out _; (with_reducible repeat (first | refine aB1 ?_ _ | refine aB2 ?_ | refine aB3 ?_ _)); refine blk_far ?_ NB226_239.out _; (with_reducible repeat (first | refine aB1 ?_ _ | refine aB2 ?_ | refine aB3 ?_ _)); exact BK226.out))⟩; have n5_ : Aside0 (w34.heap[gb231]? = some (.cells #[.int .i64 t227, .slice Ao20 t228.length co20] 39 (0, 0))) := ⟨(by rw [hw]; exact (by (with_reducible repeat (first | refine aB1 ?_ _ | refine aB2 ?_ | refine aB3 ?_ _)); refine blk_far ?_ NB231_239.out _; (with_reducible repeat (first | refine aB1 ?_ _ | refine aB2 ?_ | refine aB3 ?_ _)); refine blk_far ?_ NB231_239.out _; (with_reducible repeat (first | refine aB1 ?_ _ | refine aB2 ?_ | refine aB3 ?_ _)); refine blk_far ?_ NB231_239.out _; (with_reducible repeat (first | refine aB1 ?_ _ | refine aB2 ?_ | refine aB3 ?_ _)); refine blk_far ?_ NB231_239.out _; (with_reducible repeat (first | refine aB1 ?_ _ | refine aB2 ?_ | refine aB3 ?_ _)); exact BK231.out))⟩; have n6_ : Aside0 (w34.heap[gb239]? = some (.cells #[.slice Ao28 t233.length co28, .int .i64 t236, .int .i64 t237, .string t238] 26 (0, 0))) := ⟨(by rw [hw]; exact (by (with_reducible repeat (first | refine aB1 ?_ _ | refine aB2 ?_ | refine aB3 ?_ _)); refine blk_put (cs := #[.slice Ao28 t233.length co28, .int .i64 t236, .int .i64 t237, .string (⟨#[]⟩ : ByteArray)]) ?_ 3 _ rfl; (with_reducible repeat (first | refine aB1 ?_ _ | refine aB2 ?_ | refine aB3 ?_ _)); refine blk_put (cs := #[.slice Ao28 t233.length co28, .int .i64 t236, .int .i64 0, .string (⟨#[]⟩ : ByteArray)]) ?_ 2 _ rfl; (with_reducible repeat (first | refine aB1 ?_ _ | refine aB2 ?_ | refine aB3 ?_ _)); refine blk_put (cs := #[.slice Ao28 t233.length co28, .int .i64 0, .int .i64 0, .string (⟨#[]⟩ : ByteArray)]) ?_ 1 _ rfl; (with_reducible repeat (first | refine aB1 ?_ _ | refine aB2 ?_ | refine aB3 ?_ _)); refine blk_put (cs := #[.slice none 0 0, .int .i64 0, .int .i64 0, .string (⟨#[]⟩ : ByteArray)]) ?_ 0 _ rfl; (with_reducible repeat (first | refine aB1 ?_ _ | refine aB2 ?_ | refine aB3 ?_ _)); exact BK239.out))⟩; have n7_ : Aside0 (Below w.heap.size w w34) := ⟨(by rw [hw]; exact (by repeat (first | (with_reducible first | exact HB.out | apply aW1 | apply aW2 | apply aW3 | refine below_set ?_ GE224.out | refine below_set ?_ GE225.out | refine below_set ?_ GE226.out | refine below_set ?_ GE231.out | refine below_set ?_ GE239.out) | exact HB.out)))⟩; clear hw HO230 HO235 BK224 BK225 BK226 BK231 BK239 HB; have HO230 := n0_; have HO235 := n1_; have BK224 := n2_; have BK225 := n3_; have BK226 := n4_; have BK231 := n5_; have BK239 := n6_; have HB := n7_; clear n0_ n1_ n2_ n3_ n4_ n5_ n6_ n7_; have hcz35_0 := cz2_0 BK231; have hcz35_1 := cz2_1 BK231; have hfz35_0 := blk_frozen BK231.out 0; have hfz35_1 := blk_frozen BK231.out 1; have hcz36_0 := cz4_0 BK239; have hcz36_1 := cz4_1 BK239; have hcz36_2 := cz4_2 BK239; have hcz36_3 := cz4_3 BK239; have hfz36_0 := blk_frozen BK239.out 0; have hfz36_1 := blk_frozen BK239.out 1; have hfz36_2 := blk_frozen BK239.out 2; have hfz36_3 := blk_frozen BK239.out 3) | ((with_reducible refine gate_builtin (b := .append) (xs := #[.tmp 21, .tmp 23]) rfl ?_); at_builtin; refine Kd.S_append k26 (w0 := w) w.heap.size rfl (.tmp 21) (.tmp 23) 37 26 (.agg #[(.slice none 0 0), (.int .i64 0), (.int .i64 0), (.string ⟨#[]⟩)]) 56 rfl Try.underlying37 info26 rfl (by decide) (by omega) (.slice Ao20 t228.length co20) t228 (⟨t233, t236, t237, t238⟩ : S26) [.slice Ao28 t233.length co28, .int .i64 t236, .int .i64 t237, .string t238] (fun k_ => k_ ≠ gb225 ∧ k_ ≠ gb239) (fun k_ => some k_ = (.slice Ao28 t233.length co28 : Value).ownBlock) rfl rfl ?aP (fun k_ hk_ => ((Kd.R_mono (ok' := fun k_ => ((fun k_ => k_ ≠ gb225 ∧ k_ ≠ gb239)) k_ ∧ some k_ ≠ (.slice Ao20 t228.length co20 : Value).ownBlock) (Kd.R_types (Kd.R_types (Kd.R_apart' (HO235.out) (Kd.S_typed HO230.out) (by decide)) BK225.out (by decide)) BK239.out (by decide)) (fun k_ hk => ⟨⟨hk.1.2, hk.2⟩, hk.1.1.2⟩))).1 k_ hk_.symm) ?aF ?aO ?aB ?aS ?aL ?_; (case aP => exact k26_mkM _ _ _ (⟨t233, t236, t237, t238⟩ : S26) (Kd.R_mono (Kd.R_tight rfl (Kd.R_mono (ok' := fun k_ => ((fun k_ => k_ ≠ gb225 ∧ k_ ≠ gb239)) k_ ∧ some k_ ≠ (.slice Ao20 t228.length co20 : Value).ownBlock) (Kd.R_types (Kd.R_types (Kd.R_apart' (HO235.out) (Kd.S_typed HO230.out) (by decide)) BK225.out (by decide)) BK239.out (by decide)) (fun k_ hk => ⟨⟨hk.1.2, hk.2⟩, hk.1.1.2⟩))) (fun _ h_ => h_))); (case aB => exact (by repeat (first | (with_reducible first | exact HB.out | apply aW1 | apply aW2 | apply aW3 | refine below_set ?_ GE224.out | refine below_set ?_ GE225.out | refine below_set ?_ GE226.out | refine below_set ?_ GE231.out | refine below_set ?_ GE239.out) | exact HB.out))); (case aF => exact (fun k_ hk => ⟨Kd.freshB (g := gb225) (aB BK225) k_ hk, Kd.freshB (g := gb239) (aB BK239) k_ hk⟩)); (case aO => exact (by (with_reducible repeat (first | apply Kd.S_alloc | apply Kd.S_drewN | apply Kd.S_drew)); exact Kd.S_mono HO230.out (fun k_ hk => ⟨⟨hk.2.1, hk.2.2⟩, fun e_ => hk.1 e_⟩))); (case aS => exact (below_size (by repeat (first | (with_reducible first | exact HB.out | apply aW1 | apply aW2 | apply aW3 | refine below_set ?_ GE224.out | refine below_set ?_ GE225.out | refine below_set ?_ GE226.out | refine below_set ?_ GE231.out | refine below_set ?_ GE239.out) | exact HB.out)))); (case aL => have := LMc7.out; omega); intro v241 w37 ho hb hg hat; rw [← Ny240.out] at ho; have n0_ := aM (blk_grown (g := gb224) (aB BK224) hg (Kd.S_ne HO230.out BK224.out (by decide))); have n1_ := aM (blk_grown (g := gb225) (aB BK225) hg (Kd.S_away HO230.out (fun _ hk => hk.2.1))); have n2_ := aM (blk_grown (g := gb226) (aB BK226) hg (Kd.S_ne HO230.out BK226.out (by decide))); have n3_ := aM (blk_grown (g := gb231) (aB BK231) hg (Kd.S_ne HO230.out BK231.out (by decide))); have n4_ := aM (blk_grown (g := gb239) (aB BK239) hg (Kd.S_away HO230.out (fun _ hk => hk.2.2))); have n5_ := aM (hb); have n6_ := aM (ho); clear BK224 BK225 BK226 BK231 BK239 HB HO230 HO235; have BK224 := n0_; have BK225 := n1_; have BK226 := n2_; have BK231 := n3_; have BK239 := n4_; have HB := n5_; have HO242 := n6_; clear n0_ n1_ n2_ n3_ n4_ n5_ n6_ ho hb hg hat; obtain ⟨Ao38, co38, eo38⟩ := Kd.S_slice HO242.out; subst eo38; have hcz39_0 := cz2_0 BK231; have hcz39_1 := cz2_1 BK231; have hfz39_0 := blk_frozen BK231.out 0; have hfz39_1 := blk_frozen BK231.out 1; have hcz40_0 := cz2_0 BK226; have hcz40_1 := cz2_1 BK226; have hfz40_0 := blk_frozen BK226.out 0; have hfz40_1 := blk_frozen BK226.out 1))
   refine bodyPost_ret (results_ct rfl _ _ gb226 39 #[.int .i64 t227, .slice Ao38 y240.length co38] (0, 0) _ rfl (by (with_reducible repeat (first | refine aB1 ?_ _ | refine aB2 ?_ | refine aB3 ?_ _)); refine blk_put (cs := #[.int .i64 t227, .slice none 0 0]) ?_ 1 _ rfl; (with_reducible repeat (first | refine aB1 ?_ _ | refine aB2 ?_ | refine aB3 ?_ _)); refine blk_put (cs := #[.int .i64 0, .slice none 0 0]) ?_ 0 _ rfl; (with_reducible repeat (first | refine aB1 ?_ _ | refine aB2 ?_ | refine aB3 ?_ _)); refine blk_far ?_ NB226_231.out _; (with_reducible repeat (first | refine aB1 ?_ _ | refine aB2 ?_ | refine aB3 ?_ _)); exact BK226.out) Try.underlying39 rfl (by kernel_rfl)) rfl ?_
   exact ⟨_, by first | rfl | (simp [errW_none, errW_some] <;> rfl) | (simp [*, errW_none, errW_some] <;> rfl), by (with_reducible repeat (first | apply Kd.S_alloc | apply Kd.S_drewN | apply Kd.S_drew)); exact Kd.S_mono (Kd.S_far (p := ⟨gb226, 1, none⟩) (Kd.S_far (p := ⟨gb226, 0, none⟩) (Kd.S_far (p := ⟨gb231, 1, none⟩) (Kd.S_types (Kd.S_types HO242.out BK231.out (by decide)) BK226.out (by decide)) (fun _ hk => hk.1.2) (.slice Ao38 y240.length co38)) (fun _ hk => hk.2) (.int .i64 t227)) (fun _ hk => hk.2) (.slice Ao38 y240.length co38)) (fun _ hk => trivial), by repeat (first | (with_reducible first | exact HB.out | apply aW1 | apply aW2 | apply aW3 | refine below_set ?_ GE224.out | refine below_set ?_ GE225.out | refine below_set ?_ GE226.out | refine below_set ?_ GE231.out | refine below_set ?_ GE239.out) | exact HB.out)⟩
  ·rw [if_neg c7] at H
   exact absurd H (by simp)
 ·rw [if_neg c5] at H; have c5b0 : decide (t232 < 0) = false := decide_eq_false c5; clear c5
  by_cases c41 : 0 ≤ t232
  ·rw [if_pos c41] at H; have c41b0 : decide (0 ≤ t232) = true := decide_eq_true c41; clear c41
   by_cases c42 : t232 < (l0_1.length : Int)
   ·rw [if_pos c42] at H; have c42b0 : decide (t232 < (l0_1.length : Int)) = true := decide_eq_true c42; clear c42; replace H := Option.bind_eq_some_iff.mp H
    obtain ⟨⟨t244, t247, t248, t249⟩, A430, H⟩ := H
    try dsimp only at H
    have A43 := aM A430
    clear A430
    by_cases c44 : t232 < (t228.length : Int)
    ·rw [if_pos c44] at H; have c44b0 : decide (t232 < (t228.length : Int)) = true := decide_eq_true c44; clear c44
     obtain ⟨y251, hy251⟩ : ∃ y_ : List (S26), y_ = (t228.set (t232 : Int).toNat (⟨t244, t247, t248, t249⟩ : S26)) := ⟨_, rfl⟩
     replace H : (some (t227, y251, false)) = some (r1, r2, r3) := by first | (rw [hy251]; with_reducible exact H) | (have H2_ := (Option.bind_some _ _).symm.trans H; rw [hy251]; with_reducible exact H2_) | (have H2_ := (Option.bind_some _ _).symm.trans H; with_reducible exact H2_) | with_reducible exact H | (rw [hy251]; exact H) | exact H
     have Ny251 := aM hy251
     clear hy251
     simp only [Option.some.injEq, Prod.mk.injEq] at H
     obtain ⟨rfl, rfl, rfl⟩ := H
     go_enter Try.func36, Try.ntmps36
     try go_wp2_with (first | ((with_reducible refine gate_dst (N := 2) rfl ?_); refine box_event ?hg (N := 2) ?hd (cs := #[.int .i64 a0_0, .slice A0_1 l0_1.length c0_1]) (t := 39) ?hr ?_; (case hd => rfl); (case hg => rfl); (case hr => first | (go_simp; done) | (go_simp; rfl)); intro gb224 hg w46 hbox hb; have n0_ := aM (below_step (by repeat (first | (with_reducible first | exact HB.out | apply aW1 | apply aW2 | apply aW3) | exact HB.out)) hb); have n1_ := aM (hbox); have n2_ := aM ((by rw [hg]; exact (below_size (by repeat (first | (with_reducible first | exact HB.out | apply aW1 | apply aW2 | apply aW3) | exact HB.out))) : w.heap.size ≤ gb224)); have n3_ := aM ((by rw [hg]; exact (below_size (by repeat (first | (with_reducible first | exact HB.out | apply aW1 | apply aW2 | apply aW3) | exact HB.out))) : w.heap.size ≤ gb224)); clear HB; have HB := n0_; have BK224 := n1_; have GW224 := n2_; have GE224 := n3_; clear n0_ n1_ n2_ n3_ hb hbox hg) | ((with_reducible refine gate_dst (N := 3) rfl ?_); refine box_event ?hg (N := 3) ?hd (cs := #[.slice A1_0 l1_0.length c1_0, .int .i64 a1_1, .int .i64 a1_2, .string a1_3]) (t := 26) ?hr ?_; (case hd => rfl); (case hg => rfl); (case hr => first | (go_simp; done) | (go_simp; rfl)); intro gb225 hg w47 hbox hb; have n0_ := bb BK224 hb; have n1_ := aM (below_step (by repeat (first | (with_reducible first | exact HB.out | apply aW1 | apply aW2 | apply aW3 | refine below_set ?_ GE224.out) | exact HB.out)) hb); have n2_ := aM (hbox); have n3_ := aM ((by rw [hg]; exact (below_size (by repeat (first | (with_reducible first | exact HB.out | apply aW1 | apply aW2 | apply aW3 | refine below_set ?_ GE224.out) | exact HB.out))) : w.heap.size ≤ gb225)); have n4_ := aM ((by rw [hg]; exact (below_size (by repeat (first | (with_reducible first | exact HB.out | apply aW1 | apply aW2 | apply aW3 | refine below_set ?_ GE224.out) | exact HB.out))) : w.heap.size ≤ gb225)); have n5_ := aM ((by rw [hg]; exact Nat.ne_of_lt (blk_lt (g := gb224) (aB BK224)) : gb224 ≠ gb225)); have n6_ := aM ((by rw [hg]; exact Nat.ne_of_gt (blk_lt (g := gb224) (aB BK224)) : gb225 ≠ gb224)); clear BK224 HB; have BK224 := n0_; have HB := n1_; have BK225 := n2_; have GW225 := n3_; have GE225 := n4_; have NB224_225 := n5_; have NB225_224 := n6_; clear n0_ n1_ n2_ n3_ n4_ n5_ n6_ hb hbox hg) | ((with_reducible refine gate_dst (N := 4) rfl ?_); refine box_event ?hg (N := 4) ?hd (cs := #[.int .i64 0, .slice none 0 0]) (t := 39) ?hr ?_; (case hd => rfl); (case hg => rfl); (case hr => first | (go_simp; done) | (go_simp; rfl)); intro gb226 hg w48 hbox hb; have n0_ := bb BK224 hb; have n1_ := bb BK225 hb; have n2_ := aM (below_step (by repeat (first | (with_reducible first | exact HB.out | apply aW1 | apply aW2 | apply aW3 | refine below_set ?_ GE224.out | refine below_set ?_ GE225.out) | exact HB.out)) hb); have n3_ := aM (hbox); have n4_ := aM ((by rw [hg]; exact (below_size (by repeat (first | (with_reducible first | exact HB.out | apply aW1 | apply aW2 | apply aW3 | refine below_set ?_ GE224.out | refine below_set ?_ GE225.out) | exact HB.out))) : w.heap.size ≤ gb226)); have n5_ := aM ((by rw [hg]; exact (below_size (by repeat (first | (with_reducible first | exact HB.out | apply aW1 | apply aW2 | apply aW3 | refine below_set ?_ GE224.out | refine below_set ?_ GE225.out) | exact HB.out))) : w.heap.size ≤ gb226)); have n6_ := aM ((by rw [hg]; exact Nat.ne_of_lt (blk_lt (g := gb224) (aB BK224)) : gb224 ≠ gb226)); have n7_ := aM ((by rw [hg]; exact Nat.ne_of_gt (blk_lt (g := gb224) (aB BK224)) : gb226 ≠ gb224)); have n8_ := aM ((by rw [hg]; exact Nat.ne_of_lt (blk_lt (g := gb225) (aB BK225)) : gb225 ≠ gb226)); have n9_ := aM ((by rw [hg]; exact Nat.ne_of_gt (blk_lt (g := gb225) (aB BK225)) : gb226 ≠ gb225)); clear BK224 BK225 HB; have BK224 := n0_; have BK225 := n1_; have HB := n2_; have BK226 := n3_; have GW226 := n4_; have GE226 := n5_; have NB224_226 := n6_; have NB226_224 := n7_; have NB225_226 := n8_; have NB226_225 := n9_; clear n0_ n1_ n2_ n3_ n4_ n5_ n6_ n7_ n8_ n9_ hb hbox hg; have hnb49 := NB224_225.out; have hnc49 := NB225_224.out; have hnb50 := NB224_226.out; have hnc50 := NB226_224.out; have hcz51_0 := cz2_0 BK224; have hcz51_1 := cz2_1 BK224; have hfz51_0 := blk_frozen BK224.out 0; have hfz51_1 := blk_frozen BK224.out 1) | ((with_reducible refine gate_callee (f := 75) rfl ?_); refine goesL_ (some 11) rfl rfl Try.func75 (by kernel_rfl) rfl #[.agg #[.int .i64 a0_0, .slice A0_1 l0_1.length c0_1]] rfl (by (try simp only [List.map_toArray, List.map_cons, List.map_nil]); first | done | rfl | (simp only [List.length_drop, List.length_take]; rfl)) ?_; (with_reducible refine (spec_l6Copy.calls k a0_0 _ _ l0_1 t227 t228 _ ?side1 ?side2 A3.out).mono ?_); (case side1 => repeat (first | exact (Kd.C_below HR0_1.out HB.out) | (with_reducible refine Kd.C_alloc ?_ _) | (with_reducible refine Kd.C_drewN ?_ _) | (with_reducible refine Kd.C_drew ?_))); (case side2 => exact HC0_1.out); rintro e w52 ⟨v229, rfl, ho0, hb⟩; refine ⟨_, rfl, ?_⟩; have n0_ := aM (Kd.S_lower (Kd.S_newB ho0 (g := gb225) (aB BK225)) (below_size (by repeat (first | (with_reducible first | exact HB.out | apply aW1 | apply aW2 | apply aW3 | refine below_set ?_ GE224.out | refine below_set ?_ GE225.out | refine below_set ?_ GE226.out) | exact HB.out)))); have n1_ := bb BK224 hb; have n2_ := bb BK225 hb; have n3_ := bb BK226 hb; have n4_ := aM (below_step (by repeat (first | (with_reducible first | exact HB.out | apply aW1 | apply aW2 | apply aW3 | refine below_set ?_ GE224.out | refine below_set ?_ GE225.out | refine below_set ?_ GE226.out) | exact HB.out)) hb); clear BK224 BK225 BK226 HB; have HO230 := n0_; have BK224 := n1_; have BK225 := n2_; have BK226 := n3_; have HB := n4_; clear n0_ n1_ n2_ n3_ n4_; (try clear hb); (try clear hb2); (try clear hk); (try clear hi); (try clear ho0)) | ((with_reducible refine gate_dst (N := 6) rfl ?_); refine box_event ?hg (N := 6) ?hd (cs := #[.int .i64 0, .slice none 0 0]) (t := 39) ?hr ?_; (case hd => rfl); (case hg => rfl); (case hr => first | (go_simp; done) | (go_simp; rfl)); intro gb231 hg w53 hbox hb; have n0_ := aM (Kd.S_below (by (with_reducible repeat (first | apply Kd.S_alloc | apply Kd.S_drewN | apply Kd.S_drew)); exact HO230.out) hb); have n1_ := bb BK224 hb; have n2_ := bb BK225 hb; have n3_ := bb BK226 hb; have n4_ := aM (below_step (by repeat (first | (with_reducible first | exact HB.out | apply aW1 | apply aW2 | apply aW3 | refine below_set ?_ GE224.out | refine below_set ?_ GE225.out | refine below_set ?_ GE226.out) | exact HB.out)) hb); have n5_ := aM (hbox); have n6_ := aM ((by rw [hg]; exact (below_size (by repeat (first | (with_reducible first | exact HB.out | apply aW1 | apply aW2 | apply aW3 | refine below_set ?_ GE224.out | refine below_set ?_ GE225.out | refine below_set ?_ GE226.out) | exact HB.out))) : w.heap.size ≤ gb231)); have n7_ := aM ((by rw [hg]; exact (below_size (by repeat (first | (with_reducible first | exact HB.out | apply aW1 | apply aW2 | apply aW3 | refine below_set ?_ GE224.out | refine below_set ?_ GE225.out | refine below_set ?_ GE226.out) | exact HB.out))) : w.heap.size ≤ gb231)); have n8_ := aM ((by rw [hg]; exact Nat.ne_of_lt (blk_lt (g := gb224) (aB BK224)) : gb224 ≠ gb231)); have n9_ := aM ((by rw [hg]; exact Nat.ne_of_gt (blk_lt (g := gb224) (aB BK224)) : gb231 ≠ gb224)); have n10_ := aM ((by rw [hg]; exact Nat.ne_of_lt (blk_lt (g := gb225) (aB BK225)) : gb225 ≠ gb231)); have n11_ := aM ((by rw [hg]; exact Nat.ne_of_gt (blk_lt (g := gb225) (aB BK225)) : gb231 ≠ gb225)); have n12_ := aM ((by rw [hg]; exact Nat.ne_of_lt (blk_lt (g := gb226) (aB BK226)) : gb226 ≠ gb231)); have n13_ := aM ((by rw [hg]; exact Nat.ne_of_gt (blk_lt (g := gb226) (aB BK226)) : gb231 ≠ gb226)); clear HO230 BK224 BK225 BK226 HB; have HO230 := n0_; have BK224 := n1_; have BK225 := n2_; have BK226 := n3_; have HB := n4_; have BK231 := n5_; have GW231 := n6_; have GE231 := n7_; have NB224_231 := n8_; have NB231_224 := n9_; have NB225_231 := n10_; have NB231_225 := n11_; have NB226_231 := n12_; have NB231_226 := n13_; clear n0_ n1_ n2_ n3_ n4_ n5_ n6_ n7_ n8_ n9_ n10_ n11_ n12_ n13_ hb hbox hg; have hnb54 := NB231_224.out; have hnc54 := NB224_231.out; have hnb55 := NB231_225.out; have hnc55 := NB225_231.out; have hnb56 := NB231_226.out; have hnc56 := NB226_231.out; have hcz57_0 := cz2_0 BK231; have hcz57_1 := cz2_1 BK231; have hfz57_0 := blk_frozen BK231.out 0; have hfz57_1 := blk_frozen BK231.out 1; obtain ⟨Ao58, co58, eo58⟩ := Kd.S_slice HO230.out; subst eo58; have hcz59_0 := cz2_0 BK224; have hcz59_1 := cz2_1 BK224; have hfz59_0 := blk_frozen BK224.out 0; have hfz59_1 := blk_frozen BK224.out 1; have hnb60 := NB225_226.out; have hnc60 := NB226_225.out; have hcz61_0 := cz4_0 BK225; have hcz61_1 := cz4_1 BK225; have hcz61_2 := cz4_2 BK225; have hcz61_3 := cz4_3 BK225; have hfz61_0 := blk_frozen BK225.out 0; have hfz61_1 := blk_frozen BK225.out 1; have hfz61_2 := blk_frozen BK225.out 2; have hfz61_3 := blk_frozen BK225.out 3) | ((with_reducible refine gate_callee (f := 76) rfl ?_); refine goesL_ (some 15) rfl rfl Try.func76 (by kernel_rfl) rfl #[.agg #[.int .i64 a0_0, .slice A0_1 l0_1.length c0_1], .slice A1_0 l1_0.length c1_0] rfl (by (try simp only [List.map_toArray, List.map_cons, List.map_nil]); first | done | rfl | (simp only [List.length_drop, List.length_take]; rfl)) ?_; (with_reducible refine (spec_InChain.calls k a0_0 _ _ l0_1 _ _ l1_0 t232 _ ?side1 ?side2 ?side3 ?side4 A4.out).mono ?_); (case side1 => exact Kd.C_below HR0_1.out (by repeat (first | (with_reducible first | exact HB.out | apply aW1 | apply aW2 | apply aW3 | refine below_set ?_ GE224.out | refine below_set ?_ GE225.out | refine below_set ?_ GE226.out | refine below_set ?_ GE231.out) | exact HB.out))); (case side2 => exact HC0_1.out); (case side3 => exact Kd.C_below HR1_0.out (by repeat (first | (with_reducible first | exact HB.out | apply aW1 | apply aW2 | apply aW3 | refine below_set ?_ GE224.out | refine below_set ?_ GE225.out | refine below_set ?_ GE226.out | refine below_set ?_ GE231.out) | exact HB.out))); (case side4 => exact HC1_0.out); rintro e w62 ⟨rfl, hb⟩; refine ⟨_, rfl, ?_⟩; have n0_ := aM (Kd.S_below (by (with_reducible repeat (first | apply Kd.S_alloc | apply Kd.S_drewN | apply Kd.S_drew)); exact (Kd.S_mono (Kd.S_far (p := ⟨gb231, 1, none⟩) (Kd.S_far (p := ⟨gb231, 0, none⟩) (Kd.S_types HO230.out BK231.out (by decide)) (fun _ hk => hk.2) (.int .i64 t227)) (fun _ hk => hk.2) (.slice Ao58 t228.length co58)) (fun _ h_ => h_.1))) hb); have n1_ := aM (blk_below (g := gb224) (o := .cells #[.int .i64 a0_0, .slice A0_1 l0_1.length c0_1] 39 (0, 0)) (by (with_reducible repeat (first | refine aB1 ?_ _ | refine aB2 ?_ | refine aB3 ?_ _)); refine blk_far ?_ NB224_231.out _; (with_reducible repeat (first | refine aB1 ?_ _ | refine aB2 ?_ | refine aB3 ?_ _)); refine blk_far ?_ NB224_231.out _; (with_reducible repeat (first | refine aB1 ?_ _ | refine aB2 ?_ | refine aB3 ?_ _)); exact BK224.out) hb); have n2_ := aM (blk_below (g := gb225) (o := .cells #[.slice A1_0 l1_0.length c1_0, .int .i64 a1_1, .int .i64 a1_2, .string a1_3] 26 (0, 0)) (by (with_reducible repeat (first | refine aB1 ?_ _ | refine aB2 ?_ | refine aB3 ?_ _)); refine blk_far ?_ NB225_231.out _; (with_reducible repeat (first | refine aB1 ?_ _ | refine aB2 ?_ | refine aB3 ?_ _)); refine blk_far ?_ NB225_231.out _; (with_reducible repeat (first | refine aB1 ?_ _ | refine aB2 ?_ | refine aB3 ?_ _)); exact BK225.out) hb); have n3_ := aM (blk_below (g := gb226) (o := .cells #[.int .i64 0, .slice none 0 0] 39 (0, 0)) (by (with_reducible repeat (first | refine aB1 ?_ _ | refine aB2 ?_ | refine aB3 ?_ _)); refine blk_far ?_ NB226_231.out _; (with_reducible repeat (first | refine aB1 ?_ _ | refine aB2 ?_ | refine aB3 ?_ _)); refine blk_far ?_ NB226_231.out _; (with_reducible repeat (first | refine aB1 ?_ _ | refine aB2 ?_ | refine aB3 ?_ _)); exact BK226.out) hb); have n4_ := aM (blk_below (g := gb231) (o := .cells #[.int .i64 t227, .slice Ao58 t228.length co58] 39 (0, 0)) (by (with_reducible repeat (first | refine aB1 ?_ _ | refine aB2 ?_ | refine aB3 ?_ _)); refine blk_put (cs := #[.int .i64 t227, .slice none 0 0]) ?_ 1 _ rfl; (with_reducible repeat (first | refine aB1 ?_ _ | refine aB2 ?_ | refine aB3 ?_ _)); refine blk_put (cs := #[.int .i64 0, .slice none 0 0]) ?_ 0 _ rfl; (with_reducible repeat (first | refine aB1 ?_ _ | refine aB2 ?_ | refine aB3 ?_ _)); exact BK231.out) hb); have n5_ := aM (below_step (by repeat (first | (with_reducible first | exact HB.out | apply aW1 | apply aW2 | apply aW3 | refine below_set ?_ GE224.out | refine below_set ?_ GE225.out | refine below_set ?_ GE226.out | refine below_set ?_ GE231.out) | exact HB.out)) hb); clear HO230 BK224 BK225 BK226 BK231 HB; have HO230 := n0_; have BK224 := n1_; have BK225 := n2_; have BK226 := n3_; have BK231 := n4_; have HB := n5_; clear n0_ n1_ n2_ n3_ n4_ n5_; (try clear hb); (try clear hb2); (try clear hk); (try clear hi)))
     have n0_ := aM (Kd.S_drew HO230.out)
     have n1_ := aM (blk_drew BK224.out)
     have n2_ := aM (blk_drew BK225.out)
     have n3_ := aM (blk_drew BK226.out)
     have n4_ := aM (blk_drew BK231.out)
     have n5_ := aM (below_drew1 HB.out)
     clear HO230 BK224 BK225 BK226 BK231 HB; have HO230 := n0_; have BK224 := n1_; have BK225 := n2_; have BK226 := n3_; have BK231 := n4_; have HB := n5_; clear n0_ n1_ n2_ n3_ n4_ n5_
     have p243 : 0 ≤ (t232 : Int) := of_decide_eq_true (by first | (with_reducible assumption) | assumption)
     have q243 : t232 < (l0_1.length : Int) := of_decide_eq_true (by first | (with_reducible assumption) | assumption)
     obtain ⟨ad243, A243_0, c243_0, e243, hx243_0, hx243_1, hx243_2, hx243_3, hl243_0, hi243_0⟩ := at_T26 HR0_1.out t232 p243 q243
     have hw243_3 := hx243_3
     have hw243_2 := hx243_2
     have hw243_1 := hx243_1
     have hw243_0 := hx243_0
     cases e243
     replace hx243_0 := (HB.out.cell (World.block_lt_of_cell? w _ hx243_0)).trans hx243_0
     replace hx243_1 := (HB.out.cell (World.block_lt_of_cell? w _ hx243_1)).trans hx243_1
     replace hx243_2 := (HB.out.cell (World.block_lt_of_cell? w _ hx243_2)).trans hx243_2
     replace hx243_3 := (HB.out.cell (World.block_lt_of_cell? w _ hx243_3)).trans hx243_3
     have HR243_0 := aM hi243_0
     have HC243_0 := aM hl243_0
     clear hi243_0 hl243_0
     replace p243 := eq_true p243
     replace q243 := eq_true q243
     refine start_ (n := 9) (S := fun w' => w'.cell? ⟨gb224, 0, none⟩ = some (.int .i64 a0_0) ∧ w'.cell? ⟨gb224, 1, none⟩ = some (.slice (some ad243) l0_1.length c0_1) ∧ w'.cell? ⟨gb225, 0, none⟩ = some (.slice A1_0 l1_0.length c1_0) ∧ w'.cell? ⟨gb225, 1, none⟩ = some (.int .i64 a1_1) ∧ w'.cell? ⟨gb225, 2, none⟩ = some (.int .i64 a1_2) ∧ w'.cell? ⟨gb225, 3, none⟩ = some (.string a1_3) ∧ w'.cell? (ad243.add ((t232).toNat * 4)) = some (.slice A243_0 ((rd_T26 l0_1 t232).f0).length c243_0) ∧ w'.cell? ⟨(ad243.add ((t232).toNat * 4)).block, (ad243.add ((t232).toNat * 4)).off + 1, none⟩ = some (.int .i64 ((rd_T26 l0_1 t232).f1)) ∧ w'.cell? ⟨(ad243.add ((t232).toNat * 4)).block, (ad243.add ((t232).toNat * 4)).off + 2, none⟩ = some (.int .i64 ((rd_T26 l0_1 t232).f2)) ∧ w'.cell? ⟨(ad243.add ((t232).toNat * 4)).block, (ad243.add ((t232).toNat * 4)).off + 3, none⟩ = some (.string ((rd_T26 l0_1 t232).f3))) (ds := []) (bz 9 0) (by kernel_rfl) rfl (by kernel_rfl) ⟨(blk_cell BK224.out 0).trans rfl, (blk_cell BK224.out 1).trans rfl, (blk_cell BK225.out 0).trans rfl, (blk_cell BK225.out 1).trans rfl, (blk_cell BK225.out 2).trans rfl, (blk_cell BK225.out 3).trans rfl, ((HB.out.cell (World.block_lt_of_cell? w _ hw243_0)).trans hw243_0), ((HB.out.cell (World.block_lt_of_cell? w _ hw243_1)).trans hw243_1), ((HB.out.cell (World.block_lt_of_cell? w _ hw243_2)).trans hw243_2), ((HB.out.cell (World.block_lt_of_cell? w _ hw243_3)).trans hw243_3)⟩ (fun hHeld => ?_); refine with_tabW spec_PutChain.tab7 spec_PutChain.bits7 (fun HT_ HW_ => ?_)
     generalize w62.drew = w63 at HO230 BK224 BK225 BK226 BK231 HB HR243_0 hx243_0 hx243_1 hx243_2 hx243_3 hHeld ⊢
     refine (pu 0 (some 27) 1 ?_ ?_ HT_ rfl rfl (by kernel_rfl) (fun _ _ _ h => h) ?_ ?_ ?_ (pu 2 (some 29) 5 ?_ ?_ HT_ rfl rfl (by kernel_rfl) (fun _ _ _ h => h) ?_ ?_ ?_ (tk 1 (some 28) 7 ?_ ?_ HT_ HW_ rfl rfl (by kernel_rfl) (fun _ _ _ h => h) hHeld ?_ ?_ ?_ (pu 3 (some 30) 15 ?_ ?_ HT_ rfl rfl (by kernel_rfl) (fun _ _ _ h => h) ?_ ?_ ?_ (tk 4 (some 31) 31 ?_ ?_ HT_ HW_ rfl rfl (by kernel_rfl) (fun _ _ _ h => h) hHeld ?_ ?_ ?_ (tk 5 (some 32) 63 ?_ ?_ HT_ HW_ rfl rfl (by kernel_rfl) (fun _ _ _ h => h) hHeld ?_ ?_ ?_ ?_))))))
     all_goals first | (rintro w' ⟨s0, s1, s2, s3, s4, s5, s6, s7, s8, s9⟩; go_simp; with_reducible rfl) | (intro w'; go_simp; with_reducible rfl) | (simp only [Act.put, List.setIfInBounds_toArray, List.set_cons_zero, List.set_cons_succ, i64_w, i32_w]; rfl) | rfl | skip
     refine join_ (σ := Value × Nat) 1 (bz 9 255) (fun s_ => [(33, .agg #[s_.1, .int .i64 t247, .int .i64 t248, .string t249]), (9, .pointer (some ⟨s_.2, 0, none⟩))]) (fun s_ w' => (w'.cell? ⟨gb224, 0, none⟩ = some (.int .i64 a0_0) ∧ w'.cell? ⟨gb224, 1, none⟩ = some (.slice (some ad243) l0_1.length c0_1) ∧ w'.cell? ⟨gb225, 0, none⟩ = some (.slice A1_0 l1_0.length c1_0) ∧ w'.cell? ⟨gb225, 1, none⟩ = some (.int .i64 a1_1) ∧ w'.cell? ⟨gb225, 2, none⟩ = some (.int .i64 a1_2) ∧ w'.cell? ⟨gb225, 3, none⟩ = some (.string a1_3) ∧ w'.cell? (ad243.add ((t232).toNat * 4)) = some (.slice A243_0 ((rd_T26 l0_1 t232).f0).length c243_0) ∧ w'.cell? ⟨(ad243.add ((t232).toNat * 4)).block, (ad243.add ((t232).toNat * 4)).off + 1, none⟩ = some (.int .i64 ((rd_T26 l0_1 t232).f1)) ∧ w'.cell? ⟨(ad243.add ((t232).toNat * 4)).block, (ad243.add ((t232).toNat * 4)).off + 2, none⟩ = some (.int .i64 ((rd_T26 l0_1 t232).f2)) ∧ w'.cell? ⟨(ad243.add ((t232).toNat * 4)).block, (ad243.add ((t232).toNat * 4)).off + 3, none⟩ = some (.string ((rd_T26 l0_1 t232).f3))) ∧ (Kd.S k26 26 w' w.heap.size (fun k_ => some k_ ≠ (s_.1 : Value).ownBlock ∧ k_ ≠ gb225 ∧ k_ ≠ s_.2) (.slice Ao58 t228.length co58) t228) ∧ (Kd.R k89 89 w' w.heap.size (fun _ => True) s_.1 t244) ∧ (w'.heap[gb224]? = some (.cells #[.int .i64 a0_0, .slice (some ad243) l0_1.length c0_1] 39 (0, 0))) ∧ (w'.heap[gb225]? = some (.cells #[.slice A1_0 l1_0.length c1_0, .int .i64 a1_1, .int .i64 a1_2, .string a1_3] 26 (0, 0))) ∧ (w'.heap[gb226]? = some (.cells #[.int .i64 0, .slice none 0 0] 39 (0, 0))) ∧ (w'.heap[gb231]? = some (.cells #[.int .i64 t227, .slice Ao58 t228.length co58] 39 (0, 0))) ∧ (w'.heap[s_.2]? = some (.cells #[.slice none 0 0, .int .i64 0, .int .i64 0, .string (⟨#[]⟩ : ByteArray)] 26 (0, 0))) ∧ (w.heap.size ≤ s_.2) ∧ (w.heap.size ≤ s_.2) ∧ (gb224 ≠ s_.2) ∧ (s_.2 ≠ gb224) ∧ (gb225 ≠ s_.2) ∧ (s_.2 ≠ gb225) ∧ (gb226 ≠ s_.2) ∧ (s_.2 ≠ gb226) ∧ (gb231 ≠ s_.2) ∧ (s_.2 ≠ gb231) ∧ (Below w.heap.size w w')) ?_ ?_
     rotate_left
     ·intro hCont
      refine two_ (i := 6) (j := 7) (Ni := some 33) (Nj := some 9) (bz 9 127) (bz 9 191) rfl rfl rfl rfl (two_of HT_.out (by kernel_rfl)) (by decide) (by decide) (fun K hK => ?_) (fun K hK => ?_)
      ·skip
       refine goes_ Try.func14 (by kernel_rfl) rfl #[.agg #[.slice A243_0 ((rd_T26 l0_1 t232).f0).length c243_0, .int .i64 ((rd_T26 l0_1 t232).f1), .int .i64 ((rd_T26 l0_1 t232).f2), .string ((rd_T26 l0_1 t232).f3)], .agg #[.slice A1_0 l1_0.length c1_0, .int .i64 a1_1, .int .i64 a1_2, .string a1_3]] (by rfl) rfl rfl (by (try simp only [List.map_toArray, List.map_cons, List.map_nil]); first | done | rfl | (simp only [List.length_drop, List.length_take]; rfl)) ?_
       with_reducible refine (spec_Merge.calls _ _ ((rd_T26 l0_1 t232).f0) ((rd_T26 l0_1 t232).f1) ((rd_T26 l0_1 t232).f2) ((rd_T26 l0_1 t232).f3) _ _ l1_0 a1_1 a1_2 a1_3 t244 t247 t248 t249 _ ?side1 ?side2 ?side3 ?side4 A43.out).mono ?_
       (case side1 => repeat (first | exact (Kd.C_below HR243_0.out HB.out) | (with_reducible refine Kd.C_alloc ?_ _) | (with_reducible refine Kd.C_drewN ?_ _) | (with_reducible refine Kd.C_drew ?_)))
       (case side2 => exact HC243_0.out)
       (case side3 => repeat (first | exact (Kd.C_below HR1_0.out HB.out) | (with_reducible refine Kd.C_alloc ?_ _) | (with_reducible refine Kd.C_drewN ?_ _) | (with_reducible refine Kd.C_drew ?_)))
       (case side4 => exact HC1_0.out)
       rintro e w64 ⟨v245, rfl, ho0, hb⟩
       refine ⟨_, rfl, ?_⟩
       have n0_ := aM (Kd.S_elder' (by (with_reducible repeat (first | apply Kd.S_alloc | apply Kd.S_drewN | apply Kd.S_drew)); exact HO230.out) (Kd.R_base ho0) hb)
       have n1_ := aM (Kd.R_lower ho0 (below_size (by repeat (first | (with_reducible first | exact HB.out | apply aW1 | apply aW2 | apply aW3 | refine below_set ?_ GE224.out | refine below_set ?_ GE225.out | refine below_set ?_ GE226.out | refine below_set ?_ GE231.out) | exact HB.out))))
       have n2_ := bb BK224 hb; have n3_ := bb BK225 hb; have n4_ := bb BK226 hb; have n5_ := bb BK231 hb
       have n6_ := aM (below_step (by repeat (first | (with_reducible first | exact HB.out | apply aW1 | apply aW2 | apply aW3 | refine below_set ?_ GE224.out | refine below_set ?_ GE225.out | refine below_set ?_ GE226.out | refine below_set ?_ GE231.out) | exact HB.out)) hb)
       clear HO230 BK224 BK225 BK226 BK231 HB; have HO230 := n0_; have HO246 := n1_; have BK224 := n2_; have BK225 := n3_; have BK226 := n4_; have BK231 := n5_; have HB := n6_; clear n0_ n1_ n2_ n3_ n4_ n5_ n6_
       (try clear hb)
       (try clear hb2)
       (try clear hk)
       (try clear hi)
       (try clear ho0)
       refine hK.out _ _ ⟨(blk_cell BK224.out 0).trans rfl, (blk_cell BK224.out 1).trans rfl, (blk_cell BK225.out 0).trans rfl, (blk_cell BK225.out 1).trans rfl, (blk_cell BK225.out 2).trans rfl, (blk_cell BK225.out 3).trans rfl, ((HB.out.cell (World.block_lt_of_cell? w _ hw243_0)).trans hw243_0), ((HB.out.cell (World.block_lt_of_cell? w _ hw243_1)).trans hw243_1), ((HB.out.cell (World.block_lt_of_cell? w _ hw243_2)).trans hw243_2), ((HB.out.cell (World.block_lt_of_cell? w _ hw243_3)).trans hw243_3)⟩ (fun hHeld => ?_)
       clear hK K
       refine norm_ (a' := ?_) ?_ ?_
       rotate_left
       ·show Act.put _ (some 33) _ = _
        simp only [Act.put, List.setIfInBounds_toArray, List.set_cons_zero, List.set_cons_succ, i64_w, i32_w]
        rfl
       refine one_ (i := 7) (N := some 9) (bz 9 255) rfl rfl (one_of HT_.out (by kernel_rfl)) (by decide) (fun K hK => ?_)
       refine box_step ?hg (N := 9) ?hd (cs := #[.slice none 0 0, .int .i64 0, .int .i64 0, .string (⟨#[]⟩ : ByteArray)]) (t := 26) ?hr ?_; (case hd => rfl); (case hg => rfl); (case hr => first | (go_simp; done) | (go_simp; rfl))
       intro gb250 hg w65 hbox hb
       have n0_ := aM (Kd.S_below (Kd.S_elderB (by (with_reducible repeat (first | apply Kd.S_alloc | apply Kd.S_drewN | apply Kd.S_drew)); exact HO230.out) gb250 (Nat.le_of_eq hg.symm)) hb)
       have n1_ := rb HO246 hb; have n2_ := bb BK224 hb; have n3_ := bb BK225 hb; have n4_ := bb BK226 hb; have n5_ := bb BK231 hb
       have n6_ := aM (below_step (by repeat (first | (with_reducible first | exact HB.out | apply aW1 | apply aW2 | apply aW3 | refine below_set ?_ GE224.out | refine below_set ?_ GE225.out | refine below_set ?_ GE226.out | refine below_set ?_ GE231.out) | exact HB.out)) hb)
       have n7_ := aM (hbox)
       have n8_ := aM ((by rw [hg]; exact (below_size (by repeat (first | (with_reducible first | exact HB.out | apply aW1 | apply aW2 | apply aW3 | refine below_set ?_ GE224.out | refine below_set ?_ GE225.out | refine below_set ?_ GE226.out | refine below_set ?_ GE231.out) | exact HB.out))) : w.heap.size ≤ gb250))
       have n9_ := aM ((by rw [hg]; exact (below_size (by repeat (first | (with_reducible first | exact HB.out | apply aW1 | apply aW2 | apply aW3 | refine below_set ?_ GE224.out | refine below_set ?_ GE225.out | refine below_set ?_ GE226.out | refine below_set ?_ GE231.out) | exact HB.out))) : w.heap.size ≤ gb250))
       have n10_ := aM ((by rw [hg]; exact Nat.ne_of_lt (blk_lt (g := gb224) (aB BK224)) : gb224 ≠ gb250))
       have n11_ := aM ((by rw [hg]; exact Nat.ne_of_gt (blk_lt (g := gb224) (aB BK224)) : gb250 ≠ gb224))
       have n12_ := aM ((by rw [hg]; exact Nat.ne_of_lt (blk_lt (g := gb225) (aB BK225)) : gb225 ≠ gb250))
       have n13_ := aM ((by rw [hg]; exact Nat.ne_of_gt (blk_lt (g := gb225) (aB BK225)) : gb250 ≠ gb225))
       have n14_ := aM ((by rw [hg]; exact Nat.ne_of_lt (blk_lt (g := gb226) (aB BK226)) : gb226 ≠ gb250))
       have n15_ := aM ((by rw [hg]; exact Nat.ne_of_gt (blk_lt (g := gb226) (aB BK226)) : gb250 ≠ gb226))
       have n16_ := aM ((by rw [hg]; exact Nat.ne_of_lt (blk_lt (g := gb231) (aB BK231)) : gb231 ≠ gb250))
       have n17_ := aM ((by rw [hg]; exact Nat.ne_of_gt (blk_lt (g := gb231) (aB BK231)) : gb250 ≠ gb231))
       clear HO230 HO246 BK224 BK225 BK226 BK231 HB; have HO230 := n0_; have HO246 := n1_; have BK224 := n2_; have BK225 := n3_; have BK226 := n4_; have BK231 := n5_; have HB := n6_; have BK250 := n7_; have GW250 := n8_; have GE250 := n9_; have NB224_250 := n10_; have NB250_224 := n11_; have NB225_250 := n12_; have NB250_225 := n13_; have NB226_250 := n14_; have NB250_226 := n15_; have NB231_250 := n16_; have NB250_231 := n17_; clear n0_ n1_ n2_ n3_ n4_ n5_ n6_ n7_ n8_ n9_ n10_ n11_ n12_ n13_ n14_ n15_ n16_ n17_ hb hbox hg
       refine hK.out _ _ ⟨(blk_cell BK224.out 0).trans rfl, (blk_cell BK224.out 1).trans rfl, (blk_cell BK225.out 0).trans rfl, (blk_cell BK225.out 1).trans rfl, (blk_cell BK225.out 2).trans rfl, (blk_cell BK225.out 3).trans rfl, ((HB.out.cell (World.block_lt_of_cell? w _ hw243_0)).trans hw243_0), ((HB.out.cell (World.block_lt_of_cell? w _ hw243_1)).trans hw243_1), ((HB.out.cell (World.block_lt_of_cell? w _ hw243_2)).trans hw243_2), ((HB.out.cell (World.block_lt_of_cell? w _ hw243_3)).trans hw243_3)⟩ (fun hHeld => ?_)
       clear hK K
       refine norm_ (a' := ?_) ?_ ?_
       rotate_left
       ·show Act.put _ (some 9) _ = _
        simp only [Act.put, List.setIfInBounds_toArray, List.set_cons_zero, List.set_cons_succ, i64_w, i32_w]
        rfl
       exact norm_ (by simp only [putAll, Act.put, List.setIfInBounds_toArray, List.set_cons_zero, List.set_cons_succ]) (hCont (v245, gb250) _ ⟨hHeld, (by (with_reducible repeat (first | apply Kd.S_alloc | apply Kd.S_drewN | apply Kd.S_drew)); exact Kd.S_mono HO230.out (fun _ hk => ⟨hk.1.2, ⟨hk.1.1.2, hk.2⟩⟩)), (aR HO246), (aB BK224), (aB BK225), (aB BK226), (aB BK231), (aB BK250), GW250.out, GE250.out, NB224_250.out, NB250_224.out, NB225_250.out, NB250_225.out, NB226_250.out, NB250_226.out, NB231_250.out, NB250_231.out, (by repeat (first | (with_reducible first | exact HB.out | apply aW1 | apply aW2 | apply aW3 | refine below_set ?_ GE224.out | refine below_set ?_ GE225.out | refine below_set ?_ GE226.out | refine below_set ?_ GE231.out | refine below_set ?_ GE250.out) | exact HB.out))⟩)
      ·skip
       refine box_step ?hg (N := 9) ?hd (cs := #[.slice none 0 0, .int .i64 0, .int .i64 0, .string (⟨#[]⟩ : ByteArray)]) (t := 26) ?hr ?_; (case hd => rfl); (case hg => rfl); (case hr => first | (go_simp; done) | (go_simp; rfl))
       intro gb250 hg w64 hbox hb
       have n0_ := aM (Kd.S_below (Kd.S_elderB (by (with_reducible repeat (first | apply Kd.S_alloc | apply Kd.S_drewN | apply Kd.S_drew)); exact HO230.out) gb250 (Nat.le_of_eq hg.symm)) hb)
       have n1_ := bb BK224 hb; have n2_ := bb BK225 hb; have n3_ := bb BK226 hb; have n4_ := bb BK231 hb
       have n5_ := aM (below_step (by repeat (first | (with_reducible first | exact HB.out | apply aW1 | apply aW2 | apply aW3 | refine below_set ?_ GE224.out | refine below_set ?_ GE225.out | refine below_set ?_ GE226.out | refine below_set ?_ GE231.out) | exact HB.out)) hb)
       have n6_ := aM (hbox)
       have n7_ := aM ((by rw [hg]; exact (below_size (by repeat (first | (with_reducible first | exact HB.out | apply aW1 | apply aW2 | apply aW3 | refine below_set ?_ GE224.out | refine below_set ?_ GE225.out | refine below_set ?_ GE226.out | refine below_set ?_ GE231.out) | exact HB.out))) : w.heap.size ≤ gb250))
       have n8_ := aM ((by rw [hg]; exact (below_size (by repeat (first | (with_reducible first | exact HB.out | apply aW1 | apply aW2 | apply aW3 | refine below_set ?_ GE224.out | refine below_set ?_ GE225.out | refine below_set ?_ GE226.out | refine below_set ?_ GE231.out) | exact HB.out))) : w.heap.size ≤ gb250))
       have n9_ := aM ((by rw [hg]; exact Nat.ne_of_lt (blk_lt (g := gb224) (aB BK224)) : gb224 ≠ gb250))
       have n10_ := aM ((by rw [hg]; exact Nat.ne_of_gt (blk_lt (g := gb224) (aB BK224)) : gb250 ≠ gb224))
       have n11_ := aM ((by rw [hg]; exact Nat.ne_of_lt (blk_lt (g := gb225) (aB BK225)) : gb225 ≠ gb250))
       have n12_ := aM ((by rw [hg]; exact Nat.ne_of_gt (blk_lt (g := gb225) (aB BK225)) : gb250 ≠ gb225))
       have n13_ := aM ((by rw [hg]; exact Nat.ne_of_lt (blk_lt (g := gb226) (aB BK226)) : gb226 ≠ gb250))
       have n14_ := aM ((by rw [hg]; exact Nat.ne_of_gt (blk_lt (g := gb226) (aB BK226)) : gb250 ≠ gb226))
       have n15_ := aM ((by rw [hg]; exact Nat.ne_of_lt (blk_lt (g := gb231) (aB BK231)) : gb231 ≠ gb250))
       have n16_ := aM ((by rw [hg]; exact Nat.ne_of_gt (blk_lt (g := gb231) (aB BK231)) : gb250 ≠ gb231))
       clear HO230 BK224 BK225 BK226 BK231 HB; have HO230 := n0_; have BK224 := n1_; have BK225 := n2_; have BK226 := n3_; have BK231 := n4_; have HB := n5_; have BK250 := n6_; have GW250 := n7_; have GE250 := n8_; have NB224_250 := n9_; have NB250_224 := n10_; have NB225_250 := n11_; have NB250_225 := n12_; have NB226_250 := n13_; have NB250_226 := n14_; have NB231_250 := n15_; have NB250_231 := n16_; clear n0_ n1_ n2_ n3_ n4_ n5_ n6_ n7_ n8_ n9_ n10_ n11_ n12_ n13_ n14_ n15_ n16_ hb hbox hg
       refine hK.out _ _ ⟨(blk_cell BK224.out 0).trans rfl, (blk_cell BK224.out 1).trans rfl, (blk_cell BK225.out 0).trans rfl, (blk_cell BK225.out 1).trans rfl, (blk_cell BK225.out 2).trans rfl, (blk_cell BK225.out 3).trans rfl, ((HB.out.cell (World.block_lt_of_cell? w _ hw243_0)).trans hw243_0), ((HB.out.cell (World.block_lt_of_cell? w _ hw243_1)).trans hw243_1), ((HB.out.cell (World.block_lt_of_cell? w _ hw243_2)).trans hw243_2), ((HB.out.cell (World.block_lt_of_cell? w _ hw243_3)).trans hw243_3)⟩ (fun hHeld => ?_)
       clear hK K
       refine norm_ (a' := ?_) ?_ ?_
       rotate_left
       ·show Act.put _ (some 9) _ = _
        simp only [Act.put, List.setIfInBounds_toArray, List.set_cons_zero, List.set_cons_succ, i64_w, i32_w]
        rfl
       refine one_ (i := 6) (N := some 33) (bz 9 255) rfl rfl (one_of HT_.out (by kernel_rfl)) (by decide) (fun K hK => ?_)
       refine goes_ Try.func14 (by kernel_rfl) rfl #[.agg #[.slice A243_0 ((rd_T26 l0_1 t232).f0).length c243_0, .int .i64 ((rd_T26 l0_1 t232).f1), .int .i64 ((rd_T26 l0_1 t232).f2), .string ((rd_T26 l0_1 t232).f3)], .agg #[.slice A1_0 l1_0.length c1_0, .int .i64 a1_1, .int .i64 a1_2, .string a1_3]] (by rfl) rfl rfl (by (try simp only [List.map_toArray, List.map_cons, List.map_nil]); first | done | rfl | (simp only [List.length_drop, List.length_take]; rfl)) ?_
       with_reducible refine (spec_Merge.calls _ _ ((rd_T26 l0_1 t232).f0) ((rd_T26 l0_1 t232).f1) ((rd_T26 l0_1 t232).f2) ((rd_T26 l0_1 t232).f3) _ _ l1_0 a1_1 a1_2 a1_3 t244 t247 t248 t249 _ ?side1 ?side2 ?side3 ?side4 A43.out).mono ?_
       (case side1 => repeat (first | exact (Kd.C_below HR243_0.out HB.out) | (with_reducible refine Kd.C_alloc ?_ _) | (with_reducible refine Kd.C_drewN ?_ _) | (with_reducible refine Kd.C_drew ?_)))
       (case side2 => exact HC243_0.out)
       (case side3 => repeat (first | exact (Kd.C_below HR1_0.out HB.out) | (with_reducible refine Kd.C_alloc ?_ _) | (with_reducible refine Kd.C_drewN ?_ _) | (with_reducible refine Kd.C_drew ?_)))
       (case side4 => exact HC1_0.out)
       rintro e w65 ⟨v245, rfl, ho0, hb⟩
       refine ⟨_, rfl, ?_⟩
       have n0_ := aM (Kd.S_elder' (by (with_reducible repeat (first | apply Kd.S_alloc | apply Kd.S_drewN | apply Kd.S_drew)); exact HO230.out) (Kd.R_base ho0) hb)
       have n1_ := aM (Kd.R_lower ho0 (below_size (by repeat (first | (with_reducible first | exact HB.out | apply aW1 | apply aW2 | apply aW3 | refine below_set ?_ GE224.out | refine below_set ?_ GE225.out | refine below_set ?_ GE226.out | refine below_set ?_ GE231.out | refine below_set ?_ GE250.out) | exact HB.out))))
       have n2_ := bb BK224 hb; have n3_ := bb BK225 hb; have n4_ := bb BK226 hb; have n5_ := bb BK231 hb; have n6_ := bb BK250 hb
       have n7_ := aM (below_step (by repeat (first | (with_reducible first | exact HB.out | apply aW1 | apply aW2 | apply aW3 | refine below_set ?_ GE224.out | refine below_set ?_ GE225.out | refine below_set ?_ GE226.out | refine below_set ?_ GE231.out | refine below_set ?_ GE250.out) | exact HB.out)) hb)
       clear HO230 BK224 BK225 BK226 BK231 BK250 HB; have HO230 := n0_; have HO246 := n1_; have BK224 := n2_; have BK225 := n3_; have BK226 := n4_; have BK231 := n5_; have BK250 := n6_; have HB := n7_; clear n0_ n1_ n2_ n3_ n4_ n5_ n6_ n7_
       (try clear hb)
       (try clear hb2)
       (try clear hk)
       (try clear hi)
       (try clear ho0)
       refine hK.out _ _ ⟨(blk_cell BK224.out 0).trans rfl, (blk_cell BK224.out 1).trans rfl, (blk_cell BK225.out 0).trans rfl, (blk_cell BK225.out 1).trans rfl, (blk_cell BK225.out 2).trans rfl, (blk_cell BK225.out 3).trans rfl, ((HB.out.cell (World.block_lt_of_cell? w _ hw243_0)).trans hw243_0), ((HB.out.cell (World.block_lt_of_cell? w _ hw243_1)).trans hw243_1), ((HB.out.cell (World.block_lt_of_cell? w _ hw243_2)).trans hw243_2), ((HB.out.cell (World.block_lt_of_cell? w _ hw243_3)).trans hw243_3)⟩ (fun hHeld => ?_)
       clear hK K
       refine norm_ (a' := ?_) ?_ ?_
       rotate_left
       ·show Act.put _ (some 33) _ = _
        simp only [Act.put, List.setIfInBounds_toArray, List.set_cons_zero, List.set_cons_succ, i64_w, i32_w]
        rfl
       exact norm_ (by simp only [putAll, Act.put, List.setIfInBounds_toArray, List.set_cons_zero, List.set_cons_succ]) (hCont (v245, gb250) _ ⟨hHeld, (by (with_reducible repeat (first | apply Kd.S_alloc | apply Kd.S_drewN | apply Kd.S_drew)); exact Kd.S_mono HO230.out (fun _ hk => ⟨hk.2, ⟨hk.1.1.2, hk.1.2⟩⟩)), (aR HO246), (aB BK224), (aB BK225), (aB BK226), (aB BK231), (aB BK250), GW250.out, GE250.out, NB224_250.out, NB250_224.out, NB225_250.out, NB250_225.out, NB226_250.out, NB250_226.out, NB231_250.out, NB250_231.out, (by repeat (first | (with_reducible first | exact HB.out | apply aW1 | apply aW2 | apply aW3 | refine below_set ?_ GE224.out | refine below_set ?_ GE225.out | refine below_set ?_ GE226.out | refine below_set ?_ GE231.out | refine below_set ?_ GE250.out) | exact HB.out))⟩)
     rintro ⟨v245, gb250⟩ w66 ⟨hS_, h0_, h1_, h2_, h3_, h4_, h5_, h6_, h7_, h8_, h9_, h10_, h11_, h12_, h13_, h14_, h15_, h16_, h17_⟩
     have n0_ : Aside0 (Kd.S k26 26 w66 w.heap.size (fun k_ => some k_ ≠ (v245 : Value).ownBlock ∧ k_ ≠ gb225 ∧ k_ ≠ gb250) (.slice Ao58 t228.length co58) t228) := ⟨h0_⟩
     have n1_ : Aside0 (Kd.R k89 89 w66 w.heap.size (fun _ => True) v245 t244) := ⟨h1_⟩
     have n2_ : Aside0 (w66.heap[gb224]? = some (.cells #[.int .i64 a0_0, .slice (some ad243) l0_1.length c0_1] 39 (0, 0))) := ⟨h2_⟩
     have n3_ : Aside0 (w66.heap[gb225]? = some (.cells #[.slice A1_0 l1_0.length c1_0, .int .i64 a1_1, .int .i64 a1_2, .string a1_3] 26 (0, 0))) := ⟨h3_⟩
     have n4_ : Aside0 (w66.heap[gb226]? = some (.cells #[.int .i64 0, .slice none 0 0] 39 (0, 0))) := ⟨h4_⟩
     have n5_ : Aside0 (w66.heap[gb231]? = some (.cells #[.int .i64 t227, .slice Ao58 t228.length co58] 39 (0, 0))) := ⟨h5_⟩
     have n6_ : Aside0 (w66.heap[gb250]? = some (.cells #[.slice none 0 0, .int .i64 0, .int .i64 0, .string (⟨#[]⟩ : ByteArray)] 26 (0, 0))) := ⟨h6_⟩
     have n7_ : Aside0 (w.heap.size ≤ gb250) := ⟨h7_⟩
     have n8_ : Aside0 (w.heap.size ≤ gb250) := ⟨h8_⟩
     have n9_ : Aside0 (gb224 ≠ gb250) := ⟨h9_⟩
     have n10_ : Aside0 (gb250 ≠ gb224) := ⟨h10_⟩
     have n11_ : Aside0 (gb225 ≠ gb250) := ⟨h11_⟩
     have n12_ : Aside0 (gb250 ≠ gb225) := ⟨h12_⟩
     have n13_ : Aside0 (gb226 ≠ gb250) := ⟨h13_⟩
     have n14_ : Aside0 (gb250 ≠ gb226) := ⟨h14_⟩
     have n15_ : Aside0 (gb231 ≠ gb250) := ⟨h15_⟩
     have n16_ : Aside0 (gb250 ≠ gb231) := ⟨h16_⟩
     have n17_ : Aside0 (Below w.heap.size w w66) := ⟨h17_⟩
     clear HO230 BK224 BK225 BK226 BK231 HB h0_ h1_ h2_ h3_ h4_ h5_ h6_ h7_ h8_ h9_ h10_ h11_ h12_ h13_ h14_ h15_ h16_ h17_; have HO230 := n0_; have HO246 := n1_; have BK224 := n2_; have BK225 := n3_; have BK226 := n4_; have BK231 := n5_; have BK250 := n6_; have GW250 := n7_; have GE250 := n8_; have NB224_250 := n9_; have NB250_224 := n10_; have NB225_250 := n11_; have NB250_225 := n12_; have NB226_250 := n13_; have NB250_226 := n14_; have NB231_250 := n15_; have NB250_231 := n16_; have HB := n17_; clear n0_ n1_ n2_ n3_ n4_ n5_ n6_ n7_ n8_ n9_ n10_ n11_ n12_ n13_ n14_ n15_ n16_ n17_
     have hHeld : w66.cell? ⟨gb224, 0, none⟩ = some (.int .i64 a0_0) ∧ w66.cell? ⟨gb224, 1, none⟩ = some (.slice (some ad243) l0_1.length c0_1) ∧ w66.cell? ⟨gb225, 0, none⟩ = some (.slice A1_0 l1_0.length c1_0) ∧ w66.cell? ⟨gb225, 1, none⟩ = some (.int .i64 a1_1) ∧ w66.cell? ⟨gb225, 2, none⟩ = some (.int .i64 a1_2) ∧ w66.cell? ⟨gb225, 3, none⟩ = some (.string a1_3) ∧ w66.cell? (ad243.add ((t232).toNat * 4)) = some (.slice A243_0 ((rd_T26 l0_1 t232).f0).length c243_0) ∧ w66.cell? ⟨(ad243.add ((t232).toNat * 4)).block, (ad243.add ((t232).toNat * 4)).off + 1, none⟩ = some (.int .i64 ((rd_T26 l0_1 t232).f1)) ∧ w66.cell? ⟨(ad243.add ((t232).toNat * 4)).block, (ad243.add ((t232).toNat * 4)).off + 2, none⟩ = some (.int .i64 ((rd_T26 l0_1 t232).f2)) ∧ w66.cell? ⟨(ad243.add ((t232).toNat * 4)).block, (ad243.add ((t232).toNat * 4)).off + 3, none⟩ = some (.string ((rd_T26 l0_1 t232).f3)) := hS_
     obtain ⟨Ao67, co67, eo67⟩ := Kd.R_slice HO246.out
     (first | subst eo67 | (injection eo67 with f1_ f2_ f3_; have f4_ := f1_.symm; have f5_ := f3_.symm; clear f1_ f2_ f3_; subst f4_; subst f5_))
     refine norm_ (a' := ?_) ?_ ?_
     rotate_left
     ·simp only [putAll, Act.put, List.setIfInBounds_toArray, List.set_cons_zero, List.set_cons_succ]
      rfl
     refine one_ (i := 8) (N := none) (bz 9 511) rfl rfl (one_of HT_.out (by kernel_rfl)) (by decide) (fun K hK => ?_)
     have hs68 : w66.cell? ⟨gb250, 0, none⟩ = some (.slice none 0 0) := (blk_cell BK250.out 0).trans rfl
     have hfs68 := blk_frozen BK250.out 0
     have hns68_0 := NB224_250.out
     have hns68_1 := NB225_250.out
     have hns68_2 := NB226_250.out
     have hns68_3 := NB231_250.out
     have hms68_0 := NB250_224.out
     have hms68_1 := NB250_225.out
     have hms68_2 := NB250_226.out
     have hms68_3 := NB250_231.out
     have hs69 : w66.cell? ⟨gb250, 1, none⟩ = some (.int .i64 0) := (blk_cell BK250.out 1).trans rfl
     have hfs69 := blk_frozen BK250.out 1
     have hns69_0 := NB224_250.out
     have hns69_1 := NB225_250.out
     have hns69_2 := NB226_250.out
     have hns69_3 := NB231_250.out
     have hms69_0 := NB250_224.out
     have hms69_1 := NB250_225.out
     have hms69_2 := NB250_226.out
     have hms69_3 := NB250_231.out
     have hs70 : w66.cell? ⟨gb250, 2, none⟩ = some (.int .i64 0) := (blk_cell BK250.out 2).trans rfl
     have hfs70 := blk_frozen BK250.out 2
     have hns70_0 := NB224_250.out
     have hns70_1 := NB225_250.out
     have hns70_2 := NB226_250.out
     have hns70_3 := NB231_250.out
     have hms70_0 := NB250_224.out
     have hms70_1 := NB250_225.out
     have hms70_2 := NB250_226.out
     have hms70_3 := NB250_231.out
     have hs71 : w66.cell? ⟨gb250, 3, none⟩ = some (.string (⟨#[]⟩ : ByteArray)) := (blk_cell BK250.out 3).trans rfl
     have hfs71 := blk_frozen BK250.out 3
     have hns71_0 := NB224_250.out
     have hns71_1 := NB225_250.out
     have hns71_2 := NB226_250.out
     have hns71_3 := NB231_250.out
     have hms71_0 := NB250_224.out
     have hms71_1 := NB250_225.out
     have hms71_2 := NB250_226.out
     have hms71_3 := NB250_231.out
     refine skip_ (w1 := ?_) (by rfl) rfl ?_ ?_
     rotate_left
     ·go_simp
      rfl
     refine hK.out _ _ ⟨((cell_far (p := ⟨gb250, _, none⟩) NB224_250.out _).trans (((cell_far (p := ⟨gb250, _, none⟩) NB224_250.out _).trans (((cell_far (p := ⟨gb250, _, none⟩) NB224_250.out _).trans (((cell_far (p := ⟨gb250, _, none⟩) NB224_250.out _).trans (hHeld.1)))))))), ((cell_far (p := ⟨gb250, _, none⟩) NB224_250.out _).trans (((cell_far (p := ⟨gb250, _, none⟩) NB224_250.out _).trans (((cell_far (p := ⟨gb250, _, none⟩) NB224_250.out _).trans (((cell_far (p := ⟨gb250, _, none⟩) NB224_250.out _).trans (hHeld.2.1)))))))), ((cell_far (p := ⟨gb250, _, none⟩) NB225_250.out _).trans (((cell_far (p := ⟨gb250, _, none⟩) NB225_250.out _).trans (((cell_far (p := ⟨gb250, _, none⟩) NB225_250.out _).trans (((cell_far (p := ⟨gb250, _, none⟩) NB225_250.out _).trans (hHeld.2.2.1)))))))), ((cell_far (p := ⟨gb250, _, none⟩) NB225_250.out _).trans (((cell_far (p := ⟨gb250, _, none⟩) NB225_250.out _).trans (((cell_far (p := ⟨gb250, _, none⟩) NB225_250.out _).trans (((cell_far (p := ⟨gb250, _, none⟩) NB225_250.out _).trans (hHeld.2.2.2.1)))))))), ((cell_far (p := ⟨gb250, _, none⟩) NB225_250.out _).trans (((cell_far (p := ⟨gb250, _, none⟩) NB225_250.out _).trans (((cell_far (p := ⟨gb250, _, none⟩) NB225_250.out _).trans (((cell_far (p := ⟨gb250, _, none⟩) NB225_250.out _).trans (hHeld.2.2.2.2.1)))))))), ((cell_far (p := ⟨gb250, _, none⟩) NB225_250.out _).trans (((cell_far (p := ⟨gb250, _, none⟩) NB225_250.out _).trans (((cell_far (p := ⟨gb250, _, none⟩) NB225_250.out _).trans (((cell_far (p := ⟨gb250, _, none⟩) NB225_250.out _).trans (hHeld.2.2.2.2.2.1)))))))), ((cell_far (p := ⟨gb250, _, none⟩) (by first | exact Nat.ne_of_lt (Nat.lt_of_lt_of_le (by have := World.block_lt_of_cell? _ _ hw243_0; first | rwa [add_block] at this | exact this) GW250.out) | (rw [add_block]; exact Nat.ne_of_lt (Nat.lt_of_lt_of_le (by have := World.block_lt_of_cell? _ _ hw243_0; first | rwa [add_block] at this | exact this) GW250.out)) | (show (Addr.add _ _).block ≠ _; rw [add_block]; exact Nat.ne_of_lt (Nat.lt_of_lt_of_le (by have := World.block_lt_of_cell? _ _ hw243_0; first | rwa [add_block] at this | exact this) GW250.out)) | (dsimp only; exact Nat.ne_of_lt (Nat.lt_of_lt_of_le (by have := World.block_lt_of_cell? _ _ hw243_0; first | rwa [add_block] at this | exact this) GW250.out))) _).trans (((cell_far (p := ⟨gb250, _, none⟩) (by first | exact Nat.ne_of_lt (Nat.lt_of_lt_of_le (by have := World.block_lt_of_cell? _ _ hw243_0; first | rwa [add_block] at this | exact this) GW250.out) | (rw [add_block]; exact Nat.ne_of_lt (Nat.lt_of_lt_of_le (by have := World.block_lt_of_cell? _ _ hw243_0; first | rwa [add_block] at this | exact this) GW250.out)) | (show (Addr.add _ _).block ≠ _; rw [add_block]; exact Nat.ne_of_lt (Nat.lt_of_lt_of_le (by have := World.block_lt_of_cell? _ _ hw243_0; first | rwa [add_block] at this | exact this) GW250.out)) | (dsimp only; exact Nat.ne_of_lt (Nat.lt_of_lt_of_le (by have := World.block_lt_of_cell? _ _ hw243_0; first | rwa [add_block] at this | exact this) GW250.out))) _).trans (((cell_far (p := ⟨gb250, _, none⟩) (by first | exact Nat.ne_of_lt (Nat.lt_of_lt_of_le (by have := World.block_lt_of_cell? _ _ hw243_0; first | rwa [add_block] at this | exact this) GW250.out) | (rw [add_block]; exact Nat.ne_of_lt (Nat.lt_of_lt_of_le (by have := World.block_lt_of_cell? _ _ hw243_0; first | rwa [add_block] at this | exact this) GW250.out)) | (show (Addr.add _ _).block ≠ _; rw [add_block]; exact Nat.ne_of_lt (Nat.lt_of_lt_of_le (by have := World.block_lt_of_cell? _ _ hw243_0; first | rwa [add_block] at this | exact this) GW250.out)) | (dsimp only; exact Nat.ne_of_lt (Nat.lt_of_lt_of_le (by have := World.block_lt_of_cell? _ _ hw243_0; first | rwa [add_block] at this | exact this) GW250.out))) _).trans (((cell_far (p := ⟨gb250, _, none⟩) (by first | exact Nat.ne_of_lt (Nat.lt_of_lt_of_le (by have := World.block_lt_of_cell? _ _ hw243_0; first | rwa [add_block] at this | exact this) GW250.out) | (rw [add_block]; exact Nat.ne_of_lt (Nat.lt_of_lt_of_le (by have := World.block_lt_of_cell? _ _ hw243_0; first | rwa [add_block] at this | exact this) GW250.out)) | (show (Addr.add _ _).block ≠ _; rw [add_block]; exact Nat.ne_of_lt (Nat.lt_of_lt_of_le (by have := World.block_lt_of_cell? _ _ hw243_0; first | rwa [add_block] at this | exact this) GW250.out)) | (dsimp only; exact Nat.ne_of_lt (Nat.lt_of_lt_of_le (by have := World.block_lt_of_cell? _ _ hw243_0; first | rwa [add_block] at this | exact this) GW250.out))) _).trans (hHeld.2.2.2.2.2.2.1)))))))), ((cell_far (p := ⟨gb250, _, none⟩) (by first | exact Nat.ne_of_lt (Nat.lt_of_lt_of_le (by have := World.block_lt_of_cell? _ _ hw243_1; first | rwa [add_block] at this | exact this) GW250.out) | (rw [add_block]; exact Nat.ne_of_lt (Nat.lt_of_lt_of_le (by have := World.block_lt_of_cell? _ _ hw243_1; first | rwa [add_block] at this | exact this) GW250.out)) | (show (Addr.add _ _).block ≠ _; rw [add_block]; exact Nat.ne_of_lt (Nat.lt_of_lt_of_le (by have := World.block_lt_of_cell? _ _ hw243_1; first | rwa [add_block] at this | exact this) GW250.out)) | (dsimp only; exact Nat.ne_of_lt (Nat.lt_of_lt_of_le (by have := World.block_lt_of_cell? _ _ hw243_1; first | rwa [add_block] at this | exact this) GW250.out))) _).trans (((cell_far (p := ⟨gb250, _, none⟩) (by first | exact Nat.ne_of_lt (Nat.lt_of_lt_of_le (by have := World.block_lt_of_cell? _ _ hw243_1; first | rwa [add_block] at this | exact this) GW250.out) | (rw [add_block]; exact Nat.ne_of_lt (Nat.lt_of_lt_of_le (by have := World.block_lt_of_cell? _ _ hw243_1; first | rwa [add_block] at this | exact this) GW250.out)) | (show (Addr.add _ _).block ≠ _; rw [add_block]; exact Nat.ne_of_lt (Nat.lt_of_lt_of_le (by have := World.block_lt_of_cell? _ _ hw243_1; first | rwa [add_block] at this | exact this) GW250.out)) | (dsimp only; exact Nat.ne_of_lt (Nat.lt_of_lt_of_le (by have := World.block_lt_of_cell? _ _ hw243_1; first | rwa [add_block] at this | exact this) GW250.out))) _).trans (((cell_far (p := ⟨gb250, _, none⟩) (by first | exact Nat.ne_of_lt (Nat.lt_of_lt_of_le (by have := World.block_lt_of_cell? _ _ hw243_1; first | rwa [add_block] at this | exact this) GW250.out) | (rw [add_block]; exact Nat.ne_of_lt (Nat.lt_of_lt_of_le (by have := World.block_lt_of_cell? _ _ hw243_1; first | rwa [add_block] at this | exact this) GW250.out)) | (show (Addr.add _ _).block ≠ _; rw [add_block]; exact Nat.ne_of_lt (Nat.lt_of_lt_of_le (by have := World.block_lt_of_cell? _ _ hw243_1; first | rwa [add_block] at this | exact this) GW250.out)) | (dsimp only; exact Nat.ne_of_lt (Nat.lt_of_lt_of_le (by have := World.block_lt_of_cell? _ _ hw243_1; first | rwa [add_block] at this | exact this) GW250.out))) _).trans (((cell_far (p := ⟨gb250, _, none⟩) (by first | exact Nat.ne_of_lt (Nat.lt_of_lt_of_le (by have := World.block_lt_of_cell? _ _ hw243_1; first | rwa [add_block] at this | exact this) GW250.out) | (rw [add_block]; exact Nat.ne_of_lt (Nat.lt_of_lt_of_le (by have := World.block_lt_of_cell? _ _ hw243_1; first | rwa [add_block] at this | exact this) GW250.out)) | (show (Addr.add _ _).block ≠ _; rw [add_block]; exact Nat.ne_of_lt (Nat.lt_of_lt_of_le (by have := World.block_lt_of_cell? _ _ hw243_1; first | rwa [add_block] at this | exact this) GW250.out)) | (dsimp only; exact Nat.ne_of_lt (Nat.lt_of_lt_of_le (by have := World.block_lt_of_cell? _ _ hw243_1; first | rwa [add_block] at this | exact this) GW250.out))) _).trans (hHeld.2.2.2.2.2.2.2.1)))))))), ((cell_far (p := ⟨gb250, _, none⟩) (by first | exact Nat.ne_of_lt (Nat.lt_of_lt_of_le (by have := World.block_lt_of_cell? _ _ hw243_2; first | rwa [add_block] at this | exact this) GW250.out) | (rw [add_block]; exact Nat.ne_of_lt (Nat.lt_of_lt_of_le (by have := World.block_lt_of_cell? _ _ hw243_2; first | rwa [add_block] at this | exact this) GW250.out)) | (show (Addr.add _ _).block ≠ _; rw [add_block]; exact Nat.ne_of_lt (Nat.lt_of_lt_of_le (by have := World.block_lt_of_cell? _ _ hw243_2; first | rwa [add_block] at this | exact this) GW250.out)) | (dsimp only; exact Nat.ne_of_lt (Nat.lt_of_lt_of_le (by have := World.block_lt_of_cell? _ _ hw243_2; first | rwa [add_block] at this | exact this) GW250.out))) _).trans (((cell_far (p := ⟨gb250, _, none⟩) (by first | exact Nat.ne_of_lt (Nat.lt_of_lt_of_le (by have := World.block_lt_of_cell? _ _ hw243_2; first | rwa [add_block] at this | exact this) GW250.out) | (rw [add_block]; exact Nat.ne_of_lt (Nat.lt_of_lt_of_le (by have := World.block_lt_of_cell? _ _ hw243_2; first | rwa [add_block] at this | exact this) GW250.out)) | (show (Addr.add _ _).block ≠ _; rw [add_block]; exact Nat.ne_of_lt (Nat.lt_of_lt_of_le (by have := World.block_lt_of_cell? _ _ hw243_2; first | rwa [add_block] at this | exact this) GW250.out)) | (dsimp only; exact Nat.ne_of_lt (Nat.lt_of_lt_of_le (by have := World.block_lt_of_cell? _ _ hw243_2; first | rwa [add_block] at this | exact this) GW250.out))) _).trans (((cell_far (p := ⟨gb250, _, none⟩) (by first | exact Nat.ne_of_lt (Nat.lt_of_lt_of_le (by have := World.block_lt_of_cell? _ _ hw243_2; first | rwa [add_block] at this | exact this) GW250.out) | (rw [add_block]; exact Nat.ne_of_lt (Nat.lt_of_lt_of_le (by have := World.block_lt_of_cell? _ _ hw243_2; first | rwa [add_block] at this | exact this) GW250.out)) | (show (Addr.add _ _).block ≠ _; rw [add_block]; exact Nat.ne_of_lt (Nat.lt_of_lt_of_le (by have := World.block_lt_of_cell? _ _ hw243_2; first | rwa [add_block] at this | exact this) GW250.out)) | (dsimp only; exact Nat.ne_of_lt (Nat.lt_of_lt_of_le (by have := World.block_lt_of_cell? _ _ hw243_2; first | rwa [add_block] at this | exact this) GW250.out))) _).trans (((cell_far (p := ⟨gb250, _, none⟩) (by first | exact Nat.ne_of_lt (Nat.lt_of_lt_of_le (by have := World.block_lt_of_cell? _ _ hw243_2; first | rwa [add_block] at this | exact this) GW250.out) | (rw [add_block]; exact Nat.ne_of_lt (Nat.lt_of_lt_of_le (by have := World.block_lt_of_cell? _ _ hw243_2; first | rwa [add_block] at this | exact this) GW250.out)) | (show (Addr.add _ _).block ≠ _; rw [add_block]; exact Nat.ne_of_lt (Nat.lt_of_lt_of_le (by have := World.block_lt_of_cell? _ _ hw243_2; first | rwa [add_block] at this | exact this) GW250.out)) | (dsimp only; exact Nat.ne_of_lt (Nat.lt_of_lt_of_le (by have := World.block_lt_of_cell? _ _ hw243_2; first | rwa [add_block] at this | exact this) GW250.out))) _).trans (hHeld.2.2.2.2.2.2.2.2.1)))))))), ((cell_far (p := ⟨gb250, _, none⟩) (by first | exact Nat.ne_of_lt (Nat.lt_of_lt_of_le (by have := World.block_lt_of_cell? _ _ hw243_3; first | rwa [add_block] at this | exact this) GW250.out) | (rw [add_block]; exact Nat.ne_of_lt (Nat.lt_of_lt_of_le (by have := World.block_lt_of_cell? _ _ hw243_3; first | rwa [add_block] at this | exact this) GW250.out)) | (show (Addr.add _ _).block ≠ _; rw [add_block]; exact Nat.ne_of_lt (Nat.lt_of_lt_of_le (by have := World.block_lt_of_cell? _ _ hw243_3; first | rwa [add_block] at this | exact this) GW250.out)) | (dsimp only; exact Nat.ne_of_lt (Nat.lt_of_lt_of_le (by have := World.block_lt_of_cell? _ _ hw243_3; first | rwa [add_block] at this | exact this) GW250.out))) _).trans (((cell_far (p := ⟨gb250, _, none⟩) (by first | exact Nat.ne_of_lt (Nat.lt_of_lt_of_le (by have := World.block_lt_of_cell? _ _ hw243_3; first | rwa [add_block] at this | exact this) GW250.out) | (rw [add_block]; exact Nat.ne_of_lt (Nat.lt_of_lt_of_le (by have := World.block_lt_of_cell? _ _ hw243_3; first | rwa [add_block] at this | exact this) GW250.out)) | (show (Addr.add _ _).block ≠ _; rw [add_block]; exact Nat.ne_of_lt (Nat.lt_of_lt_of_le (by have := World.block_lt_of_cell? _ _ hw243_3; first | rwa [add_block] at this | exact this) GW250.out)) | (dsimp only; exact Nat.ne_of_lt (Nat.lt_of_lt_of_le (by have := World.block_lt_of_cell? _ _ hw243_3; first | rwa [add_block] at this | exact this) GW250.out))) _).trans (((cell_far (p := ⟨gb250, _, none⟩) (by first | exact Nat.ne_of_lt (Nat.lt_of_lt_of_le (by have := World.block_lt_of_cell? _ _ hw243_3; first | rwa [add_block] at this | exact this) GW250.out) | (rw [add_block]; exact Nat.ne_of_lt (Nat.lt_of_lt_of_le (by have := World.block_lt_of_cell? _ _ hw243_3; first | rwa [add_block] at this | exact this) GW250.out)) | (show (Addr.add _ _).block ≠ _; rw [add_block]; exact Nat.ne_of_lt (Nat.lt_of_lt_of_le (by have := World.block_lt_of_cell? _ _ hw243_3; first | rwa [add_block] at this | exact this) GW250.out)) | (dsimp only; exact Nat.ne_of_lt (Nat.lt_of_lt_of_le (by have := World.block_lt_of_cell? _ _ hw243_3; first | rwa [add_block] at this | exact this) GW250.out))) _).trans (((cell_far (p := ⟨gb250, _, none⟩) (by first | exact Nat.ne_of_lt (Nat.lt_of_lt_of_le (by have := World.block_lt_of_cell? _ _ hw243_3; first | rwa [add_block] at this | exact this) GW250.out) | (rw [add_block]; exact Nat.ne_of_lt (Nat.lt_of_lt_of_le (by have := World.block_lt_of_cell? _ _ hw243_3; first | rwa [add_block] at this | exact this) GW250.out)) | (show (Addr.add _ _).block ≠ _; rw [add_block]; exact Nat.ne_of_lt (Nat.lt_of_lt_of_le (by have := World.block_lt_of_cell? _ _ hw243_3; first | rwa [add_block] at this | exact this) GW250.out)) | (dsimp only; exact Nat.ne_of_lt (Nat.lt_of_lt_of_le (by have := World.block_lt_of_cell? _ _ hw243_3; first | rwa [add_block] at this | exact this) GW250.out))) _).trans (hHeld.2.2.2.2.2.2.2.2.2))))))))⟩ (fun hHeld => ?_)
     clear hK K
     refine done_ (done_of HT_.out (by kernel_rfl)) ?_
     have n0_ : Aside0 (Kd.S k26 26 ((((w66.setCell ⟨gb250, 0, none⟩ (.slice Ao67 t244.length co67)).setCell ⟨gb250, 1, none⟩ (.int .i64 t247)).setCell ⟨gb250, 2, none⟩ (.int .i64 t248)).setCell ⟨gb250, 3, none⟩ (.string t249)) w.heap.size (fun k_ => some k_ ≠ (.slice Ao67 t244.length co67 : Value).ownBlock ∧ k_ ≠ gb225 ∧ k_ ≠ gb250) (.slice Ao58 t228.length co58) t228) := ⟨by (with_reducible repeat (first | apply Kd.S_alloc | apply Kd.S_drewN | apply Kd.S_drew)); exact Kd.S_mono (Kd.S_far (p := ⟨gb250, 3, none⟩) (Kd.S_far (p := ⟨gb250, 2, none⟩) (Kd.S_far (p := ⟨gb250, 1, none⟩) (Kd.S_far (p := ⟨gb250, 0, none⟩) (Kd.S_mono HO230.out (fun k_ hk => (⟨hk, hk.2.2⟩ : _ ∧ k_ ≠ gb250))) (fun _ hk => hk.2) (.slice Ao67 t244.length co67)) (fun _ hk => hk.2) (.int .i64 t247)) (fun _ hk => hk.2) (.int .i64 t248)) (fun _ hk => hk.2) (.string t249)) (fun _ hk => ⟨hk.1.1, ⟨hk.1.2.1, hk.1.2.2⟩⟩)⟩
     have n1_ : Aside0 (Kd.R k89 89 ((((w66.setCell ⟨gb250, 0, none⟩ (.slice Ao67 t244.length co67)).setCell ⟨gb250, 1, none⟩ (.int .i64 t247)).setCell ⟨gb250, 2, none⟩ (.int .i64 t248)).setCell ⟨gb250, 3, none⟩ (.string t249)) w.heap.size (fun _ => True) (.slice Ao67 t244.length co67) t244) := ⟨by (with_reducible repeat (first | apply aR1 | apply aR2 | apply aR3)); exact Kd.R_mono (Kd.R_far (p := ⟨gb250, 3, none⟩) (Kd.R_far (p := ⟨gb250, 2, none⟩) (Kd.R_far (p := ⟨gb250, 1, none⟩) (Kd.R_far (p := ⟨gb250, 0, none⟩) (Kd.R_types HO246.out BK250.out (by decide)) (fun _ hk => hk.2) (.slice Ao67 t244.length co67)) (fun _ hk => hk.2) (.int .i64 t247)) (fun _ hk => hk.2) (.int .i64 t248)) (fun _ hk => hk.2) (.string t249)) (fun _ hk => trivial)⟩
     have n2_ : Aside0 (((((w66.setCell ⟨gb250, 0, none⟩ (.slice Ao67 t244.length co67)).setCell ⟨gb250, 1, none⟩ (.int .i64 t247)).setCell ⟨gb250, 2, none⟩ (.int .i64 t248)).setCell ⟨gb250, 3, none⟩ (.string t249)).heap[gb224]? = some (.cells #[.int .i64 a0_0, .slice (some ad243) l0_1.length c0_1] 39 (0, 0))) := ⟨by (with_reducible repeat (first | refine aB1 ?_ _ | refine aB2 ?_ | refine aB3 ?_ _)); refine blk_far ?_ NB224_250.out _; (with_reducible repeat (first | refine aB1 ?_ _ | refine aB2 ?_ | refine aB3 ?_ _)); refine blk_far ?_ NB224_250.out _; (with_reducible repeat (first | refine aB1 ?_ _ | refine aB2 ?_ | refine aB3 ?_ _)); refine blk_far ?_ NB224_250.out _; (with_reducible repeat (first | refine aB1 ?_ _ | refine aB2 ?_ | refine aB3 ?_ _)); refine blk_far ?_ NB224_250.out _; (with_reducible repeat (first | refine aB1 ?_ _ | refine aB2 ?_ | refine aB3 ?_ _)); exact BK224.out⟩
     have n3_ : Aside0 (((((w66.setCell ⟨gb250, 0, none⟩ (.slice Ao67 t244.length co67)).setCell ⟨gb250, 1, none⟩ (.int .i64 t247)).setCell ⟨gb250, 2, none⟩ (.int .i64 t248)).setCell ⟨gb250, 3, none⟩ (.string t249)).heap[gb225]? = some (.cells #[.slice A1_0 l1_0.length c1_0, .int .i64 a1_1, .int .i64 a1_2, .string a1_3] 26 (0, 0))) := ⟨by (with_reducible repeat (first | refine aB1 ?_ _ | refine aB2 ?_ | refine aB3 ?_ _)); refine blk_far ?_ NB225_250.out _; (with_reducible repeat (first | refine aB1 ?_ _ | refine aB2 ?_ | refine aB3 ?_ _)); refine blk_far ?_ NB225_250.out _; (with_reducible repeat (first | refine aB1 ?_ _ | refine aB2 ?_ | refine aB3 ?_ _)); refine blk_far ?_ NB225_250.out _; (with_reducible repeat (first | refine aB1 ?_ _ | refine aB2 ?_ | refine aB3 ?_ _)); refine blk_far ?_ NB225_250.out _; (with_reducible repeat (first | refine aB1 ?_ _ | refine aB2 ?_ | refine aB3 ?_ _)); exact BK225.out⟩
     have n4_ : Aside0 (((((w66.setCell ⟨gb250, 0, none⟩ (.slice Ao67 t244.length co67)).setCell ⟨gb250, 1, none⟩ (.int .i64 t247)).setCell ⟨gb250, 2, none⟩ (.int .i64 t248)).setCell ⟨gb250, 3, none⟩ (.string t249)).heap[gb226]? = some (.cells #[.int .i64 0, .slice none 0 0] 39 (0, 0))) := ⟨by (with_reducible repeat (first | refine aB1 ?_ _ | refine aB2 ?_ | refine aB3 ?_ _)); refine blk_far ?_ NB226_250.out _; (with_reducible repeat (first | refine aB1 ?_ _ | refine aB2 ?_ | refine aB3 ?_ _)); refine blk_far ?_ NB226_250.out _; (with_reducible repeat (first | refine aB1 ?_ _ | refine aB2 ?_ | refine aB3 ?_ _)); refine blk_far ?_ NB226_250.out _; (with_reducible repeat (first | refine aB1 ?_ _ | refine aB2 ?_ | refine aB3 ?_ _)); refine blk_far ?_ NB226_250.out _; (with_reducible repeat (first | refine aB1 ?_ _ | refine aB2 ?_ | refine aB3 ?_ _)); exact BK226.out⟩
     have n5_ : Aside0 (((((w66.setCell ⟨gb250, 0, none⟩ (.slice Ao67 t244.length co67)).setCell ⟨gb250, 1, none⟩ (.int .i64 t247)).setCell ⟨gb250, 2, none⟩ (.int .i64 t248)).setCell ⟨gb250, 3, none⟩ (.string t249)).heap[gb231]? = some (.cells #[.int .i64 t227, .slice Ao58 t228.length co58] 39 (0, 0))) := ⟨by (with_reducible repeat (first | refine aB1 ?_ _ | refine aB2 ?_ | refine aB3 ?_ _)); refine blk_far ?_ NB231_250.out _; (with_reducible repeat (first | refine aB1 ?_ _ | refine aB2 ?_ | refine aB3 ?_ _)); refine blk_far ?_ NB231_250.out _; (with_reducible repeat (first | refine aB1 ?_ _ | refine aB2 ?_ | refine aB3 ?_ _)); refine blk_far ?_ NB231_250.out _; (with_reducible repeat (first | refine aB1 ?_ _ | refine aB2 ?_ | refine aB3 ?_ _)); refine blk_far ?_ NB231_250.out _; (with_reducible repeat (first | refine aB1 ?_ _ | refine aB2 ?_ | refine aB3 ?_ _)); exact BK231.out⟩
     have n6_ : Aside0 (((((w66.setCell ⟨gb250, 0, none⟩ (.slice Ao67 t244.length co67)).setCell ⟨gb250, 1, none⟩ (.int .i64 t247)).setCell ⟨gb250, 2, none⟩ (.int .i64 t248)).setCell ⟨gb250, 3, none⟩ (.string t249)).heap[gb250]? = some (.cells #[.slice Ao67 t244.length co67, .int .i64 t247, .int .i64 t248, .string t249] 26 (0, 0))) := ⟨by (with_reducible repeat (first | refine aB1 ?_ _ | refine aB2 ?_ | refine aB3 ?_ _)); refine blk_put (cs := #[.slice Ao67 t244.length co67, .int .i64 t247, .int .i64 t248, .string (⟨#[]⟩ : ByteArray)]) ?_ 3 _ rfl; (with_reducible repeat (first | refine aB1 ?_ _ | refine aB2 ?_ | refine aB3 ?_ _)); refine blk_put (cs := #[.slice Ao67 t244.length co67, .int .i64 t247, .int .i64 0, .string (⟨#[]⟩ : ByteArray)]) ?_ 2 _ rfl; (with_reducible repeat (first | refine aB1 ?_ _ | refine aB2 ?_ | refine aB3 ?_ _)); refine blk_put (cs := #[.slice Ao67 t244.length co67, .int .i64 0, .int .i64 0, .string (⟨#[]⟩ : ByteArray)]) ?_ 1 _ rfl; (with_reducible repeat (first | refine aB1 ?_ _ | refine aB2 ?_ | refine aB3 ?_ _)); refine blk_put (cs := #[.slice none 0 0, .int .i64 0, .int .i64 0, .string (⟨#[]⟩ : ByteArray)]) ?_ 0 _ rfl; (with_reducible repeat (first | refine aB1 ?_ _ | refine aB2 ?_ | refine aB3 ?_ _)); exact BK250.out⟩
     have n7_ : Aside0 (Below w.heap.size w ((((w66.setCell ⟨gb250, 0, none⟩ (.slice Ao67 t244.length co67)).setCell ⟨gb250, 1, none⟩ (.int .i64 t247)).setCell ⟨gb250, 2, none⟩ (.int .i64 t248)).setCell ⟨gb250, 3, none⟩ (.string t249))) := ⟨by repeat (first | (with_reducible first | exact HB.out | apply aW1 | apply aW2 | apply aW3 | refine below_set ?_ GE224.out | refine below_set ?_ GE225.out | refine below_set ?_ GE226.out | refine below_set ?_ GE231.out | refine below_set ?_ GE250.out) | exact HB.out)⟩
     (try clear HO230)
     (try clear HO246)
     (try clear BK224)
     (try clear BK225)
     (try clear BK226)
     (try clear BK231)
     (try clear BK250)
     (try clear HB)
     generalize ((((w66.setCell ⟨gb250, 0, none⟩ (.slice Ao67 t244.length co67)).setCell ⟨gb250, 1, none⟩ (.int .i64 t247)).setCell ⟨gb250, 2, none⟩ (.int .i64 t248)).setCell ⟨gb250, 3, none⟩ (.string t249)) = w72 at n0_ n1_ n2_ n3_ n4_ n5_ n6_ n7_ ⊢
     have HO230 := n0_; have HO246 := n1_; have BK224 := n2_; have BK225 := n3_; have BK226 := n4_; have BK231 := n5_; have BK250 := n6_; have HB := n7_; clear n0_ n1_ n2_ n3_ n4_ n5_ n6_ n7_; have hnb73 := NB231_250.out; have hnc73 := NB250_231.out; have hcz74_0 := cz2_0 BK231; have hcz74_1 := cz2_1 BK231; have hfz74_0 := blk_frozen BK231.out 0; have hfz74_1 := blk_frozen BK231.out 1; have hnb75 := NB250_224.out; have hnc75 := NB224_250.out; have hnb76 := NB250_225.out; have hnc76 := NB225_250.out; have hnb77 := NB250_226.out; have hnc77 := NB226_250.out
     have hcz78_0 : w72.cell? ⟨gb250, 0, none⟩ = some (.slice Ao67 t244.length co67) := (blk_cell BK250.out 0).trans rfl
     have hcz78_1 : w72.cell? ⟨gb250, 1, none⟩ = some (.int .i64 t247) := (blk_cell BK250.out 1).trans rfl
     have hcz78_2 : w72.cell? ⟨gb250, 2, none⟩ = some (.int .i64 t248) := (blk_cell BK250.out 2).trans rfl
     have hcz78_3 : w72.cell? ⟨gb250, 3, none⟩ = some (.string t249) := (blk_cell BK250.out 3).trans rfl
     have hfz78_0 := blk_frozen BK250.out 0; have hfz78_1 := blk_frozen BK250.out 1; have hfz78_2 := blk_frozen BK250.out 2; have hfz78_3 := blk_frozen BK250.out 3
     have p45 : 0 ≤ (t232 : Int) := of_decide_eq_true (by first | (with_reducible assumption) | assumption)
     have q45 : (t232 : Int) < ((t228.length : Int) : Int) := of_decide_eq_true (by first | (with_reducible assumption) | assumption)
     obtain ⟨go45, co45, eo45, gb45, gl45, cl45, HG45⟩ := Kd.S_form HO230.out (by omega)
     (first | cases eo45 | (injection eo45 with ea_ en_ ec_; (first | subst ea_ | (injection ea_ with ea_; subst ea_)); subst ec_; clear en_))
     have GB45 := aM gb45
     have GG45 := aM HG45
     clear gb45 gl45 HG45
     obtain ⟨_, ce45, hcl45, hM45, hcc45, hfr45, _, _⟩ := Kd.S_elem HO230.out z26 (t232 : Int) p45 q45
     obtain ⟨ve45_0, rfl, ge45_0⟩ := k26_openM hM45
     have hx45_0 : w72.cell? ⟨go45, (t232 : Int).toNat * 4, none⟩ = some (ve45_0) := hcc45 0 _ rfl
     have hx45_1 : w72.cell? ⟨go45, (t232 : Int).toNat * 4 + 1, none⟩ = some (.int .i64 ((rd_T26 t228 t232).f1)) := hcc45 1 _ rfl
     have hx45_2 : w72.cell? ⟨go45, (t232 : Int).toNat * 4 + 2, none⟩ = some (.int .i64 ((rd_T26 t228 t232).f2)) := hcc45 2 _ rfl
     have hx45_3 : w72.cell? ⟨go45, (t232 : Int).toNat * 4 + 3, none⟩ = some (.string ((rd_T26 t228 t232).f3)) := hcc45 3 _ rfl
     have hf45_0 : w72.frozen? ⟨go45, (t232 : Int).toNat * 4, none⟩ = false := hfr45 0
     have hf45_1 : w72.frozen? ⟨go45, (t232 : Int).toNat * 4 + 1, none⟩ = false := hfr45 1
     have hf45_2 : w72.frozen? ⟨go45, (t232 : Int).toNat * 4 + 2, none⟩ = false := hfr45 2
     have hf45_3 : w72.frozen? ⟨go45, (t232 : Int).toNat * 4 + 3, none⟩ = false := hfr45 3
     clear hcl45 hcc45 hfr45 hM45
     replace p45 := eq_true p45
     replace q45 := eq_true q45
     have HX79 := aM (show Kd.S k26 26 w72 w.heap.size (fun k_ => ((fun k_ => k_ ≠ gb225 ∧ k_ ≠ gb250)) k_ ∧ ¬ ((fun k_ => some k_ = (.slice Ao67 t244.length co67 : Value).ownBlock)) k_) (.slice (some ⟨go45, 0, none⟩) t228.length co58) t228 from (by (with_reducible repeat (first | apply Kd.S_alloc | apply Kd.S_drewN | apply Kd.S_drew)); exact Kd.S_mono HO230.out (fun k_ hk => ⟨⟨hk.2.1, hk.2.2⟩, fun e_ => hk.1 e_⟩)))
     obtain ⟨oki79, ce79, hcl79, hM79, hcc79, hfr79, hoki79, hH79⟩ := Kd.S_elem HX79.out z26 (t232 : Int) (of_decide_eq_true (by first | (with_reducible assumption) | assumption)) (by have h_ : (t232 : Int) < ((t228.length : Int) : Int) := of_decide_eq_true (by first | (with_reducible assumption) | assumption); first | exact h_ | (have e_ := (Kd.S_reads' HO230.out).1; omega) | simpa using h_)
     obtain ⟨ve79_0, rfl, ge79_0⟩ := k26_openM hM79
     have HP79 := Kd.S_seg hH79 (of_decide_eq_true (by first | (with_reducible assumption) | assumption)) (by have h_ : (t232 : Int) < ((t228.length : Int) : Int) := of_decide_eq_true (by first | (with_reducible assumption) | assumption); first | exact h_ | (have e_ := (Kd.S_reads' HO230.out).1; omega) | simpa using h_) (seg := [.slice Ao67 t244.length co67, .int .i64 t247, .int .i64 t248, .string t249]) (j := 0) (show 4 ≤ 4 from by decide) (x' := (⟨t244, t247, t248, t249⟩ : S26)) (k26_mkM _ _ _ (⟨t244, t247, t248, t249⟩ : S26) (Kd.R_mono (Kd.R_tight rfl (Kd.R_mono (ok' := fun k_ => ((fun k_ => k_ ≠ gb225 ∧ k_ ≠ gb250)) k_ ∧ k_ ≠ go45) (Kd.R_types (Kd.R_types (Kd.R_apart' (HO246.out) (Kd.S_typed HO230.out) (by decide)) BK225.out (by decide)) BK250.out (by decide)) (fun k_ hk => ⟨⟨hk.1.2, hk.2⟩, fun e_ => (hk.1.1.2) (by rw [e_]; rfl)⟩))) (fun _ h_ => Or.inr (h_)))) (fun _ hk => hk) (fun k_ hk_ => ((Kd.R_mono (ok' := fun k_ => ((fun k_ => k_ ≠ gb225 ∧ k_ ≠ gb250)) k_ ∧ k_ ≠ go45) (Kd.R_types (Kd.R_types (Kd.R_apart' (HO246.out) (Kd.S_typed HO230.out) (by decide)) BK225.out (by decide)) BK250.out (by decide)) (fun k_ hk => ⟨⟨hk.1.2, hk.2⟩, fun e_ => (hk.1.1.2) (by rw [e_]; rfl)⟩))).1 k_ hk_.symm)
     have hx79_0 := hcc79 0 _ rfl
     (try simp only [show (k26).sz = 4 from rfl, Nat.mul_one, Nat.add_zero] at hx79_0)
     have hf79_0 := hfr79 0
     (try simp only [show (k26).sz = 4 from rfl, Nat.mul_one, Nat.add_zero] at hf79_0)
     have hx79_1 := hcc79 1 _ rfl
     (try simp only [show (k26).sz = 4 from rfl, Nat.mul_one, Nat.add_zero] at hx79_1)
     have hf79_1 := hfr79 1
     (try simp only [show (k26).sz = 4 from rfl, Nat.mul_one, Nat.add_zero] at hf79_1)
     have hx79_2 := hcc79 2 _ rfl
     (try simp only [show (k26).sz = 4 from rfl, Nat.mul_one, Nat.add_zero] at hx79_2)
     have hf79_2 := hfr79 2
     (try simp only [show (k26).sz = 4 from rfl, Nat.mul_one, Nat.add_zero] at hf79_2)
     have hx79_3 := hcc79 3 _ rfl
     (try simp only [show (k26).sz = 4 from rfl, Nat.mul_one, Nat.add_zero] at hx79_3)
     have hf79_3 := hfr79 3
     (try simp only [show (k26).sz = 4 from rfl, Nat.mul_one, Nat.add_zero] at hf79_3)
     clear hcl79 hcc79 hfr79 hM79 hoki79 hH79
     try go_wp2_with (first | ((with_reducible refine gate_store (t := 26) (p := 38) rfl ?_); refine store_event (t := 26) (p := 38) (v := ?vo_w80) (w1 := ((((w72.setCell ⟨go45, (t232 : Int).toNat * 4, none⟩ (.slice Ao67 t244.length co67)).setCell ⟨go45, (t232 : Int).toNat * 4 + 1, none⟩ (.int .i64 t247)).setCell ⟨go45, (t232 : Int).toNat * 4 + 2, none⟩ (.int .i64 t248)).setCell ⟨go45, (t232 : Int).toNat * 4 + 3, none⟩ (.string t249))) ?hg ?ho ?hn ?hr ?_; (case ho => rfl); (case hg => rfl); (case hn => rfl); (case hr => first | (go_simp; done) | (go_simp; rfl)); intro w80 hw; have hg : w72.grownBy w80 (some go45) := (by rw [hw]; exact HP79.2); have hp_ : Kd.S k26 26 w80 w.heap.size (fun k_ => k_ ≠ gb225 ∧ k_ ≠ gb250) (.slice (some ⟨go45, 0, none⟩) t228.length co58) y251 := (by rw [hw, Ny251.out]; exact HP79.1); clear HP79; have n0_ := aM (blk_grown (g := gb224) (aB BK224) hg (Kd.S_ne HO230.out BK224.out (by decide))); have n1_ := aM (blk_grown (g := gb225) (aB BK225) hg (Kd.S_away HO230.out (fun _ hk => hk.2.1))); have n2_ := aM (blk_grown (g := gb226) (aB BK226) hg (Kd.S_ne HO230.out BK226.out (by decide))); have n3_ := aM (hp_); have n4_ := aM (blk_grown (g := gb231) (aB BK231) hg (Kd.S_ne HO230.out BK231.out (by decide))); have n5_ := aM (blk_grown (g := gb250) (aB BK250) hg (Kd.S_away HO230.out (fun _ hk => hk.2.2))); have n6_ := aM ((by rw [hw]; exact below_set (below_set (below_set (below_set (HB.out) GB45.out) GB45.out) GB45.out) GB45.out : Below w.heap.size w w80)); clear BK224 BK225 BK226 HO230 BK231 BK250 HB HO246; have BK224 := n0_; have BK225 := n1_; have BK226 := n2_; have HO230 := n3_; have BK231 := n4_; have BK250 := n5_; have HB := n6_; clear n0_ n1_ n2_ n3_ n4_ n5_ n6_ hg hw hp_; have hcz81_0 := cz2_0 BK231; have hcz81_1 := cz2_1 BK231; have hfz81_0 := blk_frozen BK231.out 0; have hfz81_1 := blk_frozen BK231.out 1; have hcz82_0 := cz2_0 BK226; have hcz82_1 := cz2_1 BK226; have hfz82_0 := blk_frozen BK226.out 0; have hfz82_1 := blk_frozen BK226.out 1))
     refine bodyPost_ret (results_ct rfl _ _ gb226 39 #[.int .i64 t227, .slice (some ⟨go45, 0, none⟩) t228.length co58] (0, 0) _ rfl (by (with_reducible repeat (first | refine aB1 ?_ _ | refine aB2 ?_ | refine aB3 ?_ _)); refine blk_put (cs := #[.int .i64 t227, .slice none 0 0]) ?_ 1 _ rfl; (with_reducible repeat (first | refine aB1 ?_ _ | refine aB2 ?_ | refine aB3 ?_ _)); refine blk_put (cs := #[.int .i64 0, .slice none 0 0]) ?_ 0 _ rfl; (with_reducible repeat (first | refine aB1 ?_ _ | refine aB2 ?_ | refine aB3 ?_ _)); exact BK226.out) Try.underlying39 rfl (by kernel_rfl)) rfl ?_
     exact ⟨_, by first | rfl | (simp [errW_none, errW_some] <;> rfl) | (simp [*, errW_none, errW_some] <;> rfl), by (with_reducible repeat (first | apply Kd.S_alloc | apply Kd.S_drewN | apply Kd.S_drew)); exact Kd.S_mono (Kd.S_far (p := ⟨gb226, 1, none⟩) (Kd.S_far (p := ⟨gb226, 0, none⟩) (Kd.S_types HO230.out BK226.out (by decide)) (fun _ hk => hk.2) (.int .i64 t227)) (fun _ hk => hk.2) (.slice (some ⟨go45, 0, none⟩) t228.length co58)) (fun _ hk => trivial), by repeat (first | (with_reducible first | exact HB.out | apply aW1 | apply aW2 | apply aW3 | refine below_set ?_ GE224.out | refine below_set ?_ GE225.out | refine below_set ?_ GE226.out | refine below_set ?_ GE231.out | refine below_set ?_ GE250.out) | exact HB.out)⟩
    ·rw [if_neg c44] at H
     exact absurd H (by simp)
   ·rw [if_neg c42] at H
    exact absurd H (by simp)
  ·rw [if_neg c41] at H
   exact absurd H (by simp)

end Go.Proofs.Ytgindocfjoalhaa.PFnExactPutChain
