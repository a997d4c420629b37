/- What the Go functions that FnExactSortSet reaches compute, as Lean functions, and that the machine's calls do so; no conditions. -/
import Derived.Test.YtgindocfjoalhabPFnExactSortSetx0
import Derived.Test.YtgindocfjoalhabPFnExactSortSetx6
namespace Go.Proofs.Ytgindocfjoalhab.PFnExactSortSet
open Go.RowKit Go.Proofs.YtgindocfjoalhabW.PrintWords Go.Proofs.YtgindocfjoalhabW.PrintLast Go.Proofs.YtgindocfjoalhabW.PrintMore
attribute [local go_sem] max2_int min2_int max_two min_two max_three min_three max_four min_four   -- for this text's walks alone
set_option linter.unusedVariables false
set_option linter.unusedSimpArgs false

/-! ### laws_heldLabelS: function 68 -/
def laws_heldLabelS.l0 : Nat → List (S86) → Int → Int → Option (Int)
 | 0, _, _, _ => none
 | k + 1, x0, x1, x5 => if x5 < (x0.length : Int) then (if 0 ≤ x5 then ((laws_markText.f k x1).bind fun t144 => (if ((rd_T86 x0 x5).f0).toList = t144.toList then ((laws_markText.f k (wrap64 (x1 + 1))).bind fun t146 => (if ((rd_T86 x0 x5).f1).toList = t146.toList then (laws_heldLabelS.l0 k x0 (wrap64 ((wrap64 (x1 + 1)) + 1)) (wrap64 (x5 + 1))) else (some (-1)))) else (some (-1)))) else (none)) else (some x1)
def laws_heldLabelS.f (k : Nat) (l0 : List (S86)) (a1 : Int) : Option (Int) := laws_heldLabelS.l0 k l0 a1 0
theorem laws_heldLabelS.mono_l : ∀ k, (∀ y0 y1 y2, LeO (laws_heldLabelS.l0 k y0 y1 y2) (laws_heldLabelS.l0 (k + 1) y0 y1 y2))
 | 0 => fun _ _ _ r h => by simp [laws_heldLabelS.l0] at h
 | k + 1 => by
  have ih0 := laws_heldLabelS.mono_l k
  ·intro y0 y1 y2
   unfold laws_heldLabelS.l0
   repeat' first
   | (with_reducible exact ih0 _ _ _)
   | (with_reducible exact laws_markText.mono _ _)
   | (with_reducible exact LeO.refl _)
   | (with_reducible exact LeO.none _)
   | (with_reducible refine LeO.ite ?_ ?_)
   | (with_reducible refine LeO.bind ?_ (fun _ => ?_))
   | exact ih0 _ _ _
   | exact laws_markText.mono _ _
   | exact LeO.none _
   | refine LeO.ite ?_ ?_
   | refine LeO.bind ?_ (fun _ => ?_)
theorem laws_heldLabelS.mono : ∀ a0 a1 k, LeO (laws_heldLabelS.f k a0 a1) (laws_heldLabelS.f (k + 1) a0 a1) := by
 intro a0 a1 k
 have ih0 := laws_heldLabelS.mono_l k
 unfold laws_heldLabelS.f
 repeat' first
   | (with_reducible exact ih0 _ _ _)
   | (with_reducible exact laws_markText.mono _ _)
   | (with_reducible exact LeO.refl _)
   | (with_reducible exact LeO.none _)
   | (with_reducible refine LeO.ite ?_ ?_)
   | (with_reducible refine LeO.bind ?_ (fun _ => ?_))
   | exact ih0 _ _ _
   | exact laws_markText.mono _ _
   | exact LeO.none _
   | refine LeO.ite ?_ ?_
   | refine LeO.bind ?_ (fun _ => ?_)
def laws_heldLabelS.T4 : Bool × List (List Nat × List Nat) := (true, [([], []), ([], []), ([0, 1], [0, 1]), ([2], [2]), ([3], [3]), ([], []), ([5], [5]), ([4, 6], [4, 6])])
def laws_heldLabelS.B4 : List Nat := [0, 0, 3, 7, 15, 0, 32, 127]
theorem laws_heldLabelS.tab4 : rtab .any (opsOf Try.f68 4) = laws_heldLabelS.T4 := by kernel_rfl
theorem laws_heldLabelS.bits4 : waitsOk laws_heldLabelS.T4.2 laws_heldLabelS.B4 = true := by kernel_rfl
def laws_heldLabelS.T7 : Bool × List (List Nat × List Nat) := (true, [([], []), ([], []), ([0, 1], [0, 1]), ([2], [2]), ([3], [3]), ([], []), ([5], [5]), ([4, 6], [4, 6])])
def laws_heldLabelS.B7 : List Nat := [0, 0, 3, 7, 15, 0, 32, 127]
theorem laws_heldLabelS.tab7 : rtab .any (opsOf Try.f68 7) = laws_heldLabelS.T7 := by kernel_rfl
theorem laws_heldLabelS.bits7 : waitsOk laws_heldLabelS.T7.2 laws_heldLabelS.B7 = true := by kernel_rfl
set_option maxHeartbeats 8000000 in
set_option maxRecDepth 100000 in
theorem laws_heldLabelS.calls (k : Nat) (A0 : Option Addr) (c0 : Nat) (l0 : List (S86)) (a1 : Int) (r : Int) (w : World) (hr0 : Kd.C k86 w A0 l0.length l0) (hc0 : l0.length ≤ c0) (h : laws_heldLabelS.f k l0 a1 = some r) :
  Calls Try.prog 68 #[.slice A0 l0.length c0, .int .i64 a1] w fun e w' => e = .returned (.int .i64 r) ∧ Below w.heap.size w w' := by
 have HR0 := aM hr0
 have HC0 := aM hc0
 clear hr0 hc0
 have HB := aM (Below.refl w.heap.size w)
 have H : (laws_heldLabelS.l0 k l0 a1 0) = some r := h
 clear h
 have H' := aM H
 clear H
 go_enter Try.func68, Try.ntmps68
 go_wp2
 go_loopg [1, 5] k (fun kq v1 v5 w' => ∃ (x1_1 : Int) (x5_1 : Int), v1 = .int .i64 x1_1 ∧ v5 = .int .i64 x5_1 ∧ Aside0 (laws_heldLabelS.l0 kq l0 x1_1 x5_1 = some r) ∧ Aside0 (kq ≤ k) ∧ Aside0 (Below w.heap.size w w'))
 case atStart => exact ⟨(a1), (0), (by first | rfl | (simp; done) | (simp [*]; done)), (by first | rfl | (simp; done) | (simp [*]; done)), H', ⟨Nat.le_refl _⟩, ⟨by repeat (first | (with_reducible first | exact HB.out | apply aW1 | apply aW2 | apply aW3) | exact HB.out)⟩⟩
 case round =>
  clear H'
  try clear p2
  obtain ⟨x1_1, x5_1, rfl, rfl, HA, HK1, HB⟩ := hrel
  cases gk with
  | zero => exact absurd HA.out (by simp [laws_heldLabelS.l0])
  | succ k1 =>
   have H := HA.out
   clear HA
   simp only [laws_heldLabelS.l0] at H
   by_cases c3 : x5_1 < (l0.length : Int)
   ·rw [if_pos c3] at H; have c3b0 : decide (x5_1 < (l0.length : Int)) = true := decide_eq_true c3; clear c3
    by_cases c4 : 0 ≤ x5_1
    ·rw [if_pos c4] at H; have c4b0 : decide (0 ≤ x5_1) = true := decide_eq_true c4; clear c4; replace H := Option.bind_eq_some_iff.mp H; obtain ⟨t144, A50, H⟩ := H; try dsimp only at H
     have A5 := aM A50
     clear A50
     by_cases c6 : ((rd_T86 l0 x5_1).f0).toList = t144.toList
     ·rw [if_pos c6] at H
      have c6b0 : (((rd_T86 l0 x5_1).f0).toList == t144.toList) = true := beq_iff_eq.mpr c6
      have c6b1 : (((rd_T86 l0 x5_1).f0).toList != t144.toList) = false := bne_eq_false_iff_eq.mpr c6
      clear c6; replace H := Option.bind_eq_some_iff.mp H; obtain ⟨t146, A70, H⟩ := H; try dsimp only at H
      have A7 := aM A70
      clear A70
      by_cases c8 : ((rd_T86 l0 x5_1).f1).toList = t146.toList
      ·rw [if_pos c8] at H
       have c8b0 : (((rd_T86 l0 x5_1).f1).toList == t146.toList) = true := beq_iff_eq.mpr c8
       have c8b1 : (((rd_T86 l0 x5_1).f1).toList != t146.toList) = false := bne_eq_false_iff_eq.mpr c8
       clear c8
       have H' := aM H
       clear H
       try go_wp2
       have n0_ := aM (below_drew1 HB.out)
       clear HB; have HB := n0_; clear n0_
       have p143 : 0 ≤ (x5_1 : Int) := of_decide_eq_true (by first | (with_reducible assumption) | assumption)
       have q143 : x5_1 < (l0.length : Int) := of_decide_eq_true (by first | (with_reducible assumption) | assumption)
       obtain ⟨ad143, e143, hx143_0, hx143_1⟩ := at_T86 HR0.out x5_1 p143 q143
       have hw143_1 := hx143_1
       have hw143_0 := hx143_0
       cases e143
       replace hx143_0 := (HB.out.cell (World.block_lt_of_cell? w _ hx143_0)).trans hx143_0
       replace hx143_1 := (HB.out.cell (World.block_lt_of_cell? w _ hx143_1)).trans hx143_1
       replace p143 := eq_true p143
       replace q143 := eq_true q143
       refine start_ (n := 8) (S := fun w' => w'.cell? (ad143.add ((x5_1).toNat * 2)) = some (.string ((rd_T86 l0 x5_1).f0)) ∧ w'.cell? ⟨(ad143.add ((x5_1).toNat * 2)).block, (ad143.add ((x5_1).toNat * 2)).off + 1, none⟩ = some (.string ((rd_T86 l0 x5_1).f1))) (ds := []) (bz 8 0) (by kernel_rfl) rfl (by kernel_rfl) ⟨((HB.out.cell (World.block_lt_of_cell? w _ hw143_0)).trans hw143_0), ((HB.out.cell (World.block_lt_of_cell? w _ hw143_1)).trans hw143_1)⟩ (fun hHeld => ?_); refine with_tabW laws_heldLabelS.tab4 laws_heldLabelS.bits4 (fun HT_ HW_ => ?_)
       generalize wr.drew = w9 at HB hx143_0 hx143_1 hHeld ⊢
       refine (pu 0 (some 12) 1 ?_ ?_ HT_ rfl rfl (by kernel_rfl) (fun _ _ _ h => h) ?_ ?_ ?_ (pu 1 (some 13) 3 ?_ ?_ HT_ rfl rfl (by kernel_rfl) (fun _ _ _ h => h) ?_ ?_ ?_ (pu 2 (some 14) 7 ?_ ?_ HT_ rfl rfl (by kernel_rfl) (fun _ _ _ h => h) ?_ ?_ ?_ (pu 3 (some 15) 15 ?_ ?_ HT_ rfl rfl (by kernel_rfl) (fun _ _ _ h => h) ?_ ?_ ?_ (pu 5 (some 17) 47 ?_ ?_ HT_ rfl rfl (by kernel_rfl) (fun _ _ _ h => h) ?_ ?_ ?_ (tk 4 (some 16) 63 ?_ ?_ HT_ HW_ rfl rfl (by kernel_rfl) (fun _ _ _ h => h) hHeld ?_ ?_ ?_ ?_))))))
       all_goals first | (rintro w' ⟨s0, s1⟩; go_simp; with_reducible rfl) | (intro w'; go_simp; with_reducible rfl) | (simp only [Act.put, List.setIfInBounds_toArray, List.set_cons_zero, List.set_cons_succ, i64_w, i32_w]; rfl) | rfl | skip
       refine one_ (i := 6) (N := some 18) (bz 8 127) rfl rfl (one_of HT_.out (by kernel_rfl)) (by decide) (fun K hK => ?_)
       refine goes_ Try.func124 (by kernel_rfl) rfl #[.int .i64 x1_1] (by rfl) rfl rfl (by (try simp only [List.map_toArray, List.map_cons, List.map_nil]); first | done | rfl | (simp only [List.length_drop, List.length_take]; rfl)) ?_
       with_reducible refine (laws_markText.calls k1 x1_1 t144 _ A5.out).mono ?_
       rintro e w10 ⟨rfl, hb⟩
       refine ⟨_, rfl, ?_⟩
       have n0_ := aM (below_step (by repeat (first | (with_reducible first | exact HB.out | apply aW1 | apply aW2 | apply aW3) | exact HB.out)) hb)
       clear HB; have HB := n0_; clear n0_
       (try clear hb)
       (try clear hb2)
       (try clear hk)
       (try clear hi)
       refine hK.out _ _ ⟨((HB.out.cell (World.block_lt_of_cell? w _ hw143_0)).trans hw143_0), ((HB.out.cell (World.block_lt_of_cell? w _ hw143_1)).trans hw143_1)⟩ (fun hHeld => ?_)
       clear hK K
       refine norm_ (a' := ?_) ?_ ?_
       rotate_left
       ·show Act.put _ (some 18) _ = _
        simp only [Act.put, List.setIfInBounds_toArray, List.set_cons_zero, List.set_cons_succ, i64_w, i32_w]
        rfl
       refine (pu 7 (some 19) 255 ?_ ?_ HT_ rfl rfl (by kernel_rfl) (fun _ _ _ h => h) ?_ ?_ ?_ ?_)
       all_goals first | (intro w'; go_simp; with_reducible rfl) | (simp only [Act.put, List.setIfInBounds_toArray, List.set_cons_zero, List.set_cons_succ, i64_w, i32_w]; rfl) | rfl | skip
       refine done_ (done_of HT_.out (by kernel_rfl)) ?_
       try go_wp2
       have n0_ := aM (below_drew1 HB.out)
       clear HB; have HB := n0_; clear n0_
       have p145 : 0 ≤ (x5_1 : Int) := of_decide_eq_true (by first | (with_reducible assumption) | assumption)
       have q145 : x5_1 < (l0.length : Int) := of_decide_eq_true (by first | (with_reducible assumption) | assumption)
       obtain ⟨ad145, e145, hx145_0, hx145_1⟩ := at_T86 HR0.out x5_1 p145 q145
       have hw145_1 := hx145_1
       have hw145_0 := hx145_0
       obtain rfl : ad143 = ad145 := (by injection e145)
       replace hx145_0 := (HB.out.cell (World.block_lt_of_cell? w _ hx145_0)).trans hx145_0
       replace hx145_1 := (HB.out.cell (World.block_lt_of_cell? w _ hx145_1)).trans hx145_1
       replace p145 := eq_true p145
       replace q145 := eq_true q145
       refine start_ (n := 8) (S := fun w' => w'.cell? (ad143.add ((x5_1).toNat * 2)) = some (.string ((rd_T86 l0 x5_1).f0)) ∧ w'.cell? ⟨(ad143.add ((x5_1).toNat * 2)).block, (ad143.add ((x5_1).toNat * 2)).off + 1, none⟩ = some (.string ((rd_T86 l0 x5_1).f1))) (ds := []) (bz 8 0) (by kernel_rfl) rfl (by kernel_rfl) ⟨((HB.out.cell (World.block_lt_of_cell? w _ hw145_0)).trans hw145_0), ((HB.out.cell (World.block_lt_of_cell? w _ hw145_1)).trans hw145_1)⟩ (fun hHeld => ?_); refine with_tabW laws_heldLabelS.tab7 laws_heldLabelS.bits7 (fun HT_ HW_ => ?_)
       generalize w10.drew = w11 at HB hx145_0 hx145_1 hHeld ⊢
       refine (pu 0 (some 22) 1 ?_ ?_ HT_ rfl rfl (by kernel_rfl) (fun _ _ _ h => h) ?_ ?_ ?_ (pu 1 (some 23) 3 ?_ ?_ HT_ rfl rfl (by kernel_rfl) (fun _ _ _ h => h) ?_ ?_ ?_ (pu 2 (some 24) 7 ?_ ?_ HT_ rfl rfl (by kernel_rfl) (fun _ _ _ h => h) ?_ ?_ ?_ (pu 3 (some 25) 15 ?_ ?_ HT_ rfl rfl (by kernel_rfl) (fun _ _ _ h => h) ?_ ?_ ?_ (pu 5 (some 27) 47 ?_ ?_ HT_ rfl rfl (by kernel_rfl) (fun _ _ _ h => h) ?_ ?_ ?_ (tk 4 (some 26) 63 ?_ ?_ HT_ HW_ rfl rfl (by kernel_rfl) (fun _ _ _ h => h) hHeld ?_ ?_ ?_ ?_))))))
       all_goals first | (rintro w' ⟨s0, s1⟩; go_simp; with_reducible rfl) | (intro w'; go_simp; with_reducible rfl) | (simp only [Act.put, List.setIfInBounds_toArray, List.set_cons_zero, List.set_cons_succ, i64_w, i32_w]; rfl) | rfl | skip
       refine one_ (i := 6) (N := some 28) (bz 8 127) rfl rfl (one_of HT_.out (by kernel_rfl)) (by decide) (fun K hK => ?_)
       refine goes_ Try.func124 (by kernel_rfl) rfl #[.int .i64 (wrap64 (x1_1 + 1))] (by rfl) rfl rfl (by (try simp only [List.map_toArray, List.map_cons, List.map_nil]); first | done | rfl | (simp only [List.length_drop, List.length_take]; rfl)) ?_
       with_reducible refine (laws_markText.calls k1 (wrap64 (x1_1 + 1)) t146 _ A7.out).mono ?_
       rintro e w12 ⟨rfl, hb⟩
       refine ⟨_, rfl, ?_⟩
       have n0_ := aM (below_step (by repeat (first | (with_reducible first | exact HB.out | apply aW1 | apply aW2 | apply aW3) | exact HB.out)) hb)
       clear HB; have HB := n0_; clear n0_
       (try clear hb)
       (try clear hb2)
       (try clear hk)
       (try clear hi)
       refine hK.out _ _ ⟨((HB.out.cell (World.block_lt_of_cell? w _ hw145_0)).trans hw145_0), ((HB.out.cell (World.block_lt_of_cell? w _ hw145_1)).trans hw145_1)⟩ (fun hHeld => ?_)
       clear hK K
       refine norm_ (a' := ?_) ?_ ?_
       rotate_left
       ·show Act.put _ (some 28) _ = _
        simp only [Act.put, List.setIfInBounds_toArray, List.set_cons_zero, List.set_cons_succ, i64_w, i32_w]
        rfl
       refine (pu 7 (some 29) 255 ?_ ?_ HT_ rfl rfl (by kernel_rfl) (fun _ _ _ h => h) ?_ ?_ ?_ ?_)
       all_goals first | (intro w'; go_simp; with_reducible rfl) | (simp only [Act.put, List.setIfInBounds_toArray, List.set_cons_zero, List.set_cons_succ, i64_w, i32_w]; rfl) | rfl | skip
       refine done_ (done_of HT_.out (by kernel_rfl)) ?_
       try go_wp2
       go_roundg k1
       case measure => have := HK1.out; omega
       case rel => exact ⟨(wrap64 ((wrap64 (x1_1 + 1)) + 1)), (wrap64 (x5_1 + 1)), (by first | rfl | (simp; done) | (simp [*]; done)), (by first | rfl | (simp; done) | (simp [*]; done)), H', ⟨by have := HK1.out; omega⟩, ⟨by repeat (first | (with_reducible first | exact HB.out | apply aW1 | apply aW2 | apply aW3) | exact HB.out)⟩⟩
      ·rw [if_neg c8] at H
       have c8b0 : (((rd_T86 l0 x5_1).f1).toList == t146.toList) = false := beq_eq_false_iff_ne.mpr c8
       have c8b1 : (((rd_T86 l0 x5_1).f1).toList != t146.toList) = true := bne_iff_ne.mpr c8
       obtain rfl := Option.some.inj H
       try go_wp2
       have n0_ := aM (below_drew1 HB.out)
       clear HB; have HB := n0_; clear n0_
       have p143 : 0 ≤ (x5_1 : Int) := of_decide_eq_true (by first | (with_reducible assumption) | assumption)
       have q143 : x5_1 < (l0.length : Int) := of_decide_eq_true (by first | (with_reducible assumption) | assumption)
       obtain ⟨ad143, e143, hx143_0, hx143_1⟩ := at_T86 HR0.out x5_1 p143 q143
       have hw143_1 := hx143_1
       have hw143_0 := hx143_0
       cases e143
       replace hx143_0 := (HB.out.cell (World.block_lt_of_cell? w _ hx143_0)).trans hx143_0
       replace hx143_1 := (HB.out.cell (World.block_lt_of_cell? w _ hx143_1)).trans hx143_1
       replace p143 := eq_true p143
       replace q143 := eq_true q143
       refine start_ (n := 8) (S := fun w' => w'.cell? (ad143.add ((x5_1).toNat * 2)) = some (.string ((rd_T86 l0 x5_1).f0)) ∧ w'.cell? ⟨(ad143.add ((x5_1).toNat * 2)).block, (ad143.add ((x5_1).toNat * 2)).off + 1, none⟩ = some (.string ((rd_T86 l0 x5_1).f1))) (ds := []) (bz 8 0) (by kernel_rfl) rfl (by kernel_rfl) ⟨((HB.out.cell (World.block_lt_of_cell? w _ hw143_0)).trans hw143_0), ((HB.out.cell (World.block_lt_of_cell? w _ hw143_1)).trans hw143_1)⟩ (fun hHeld => ?_); refine with_tabW laws_heldLabelS.tab4 laws_heldLabelS.bits4 (fun HT_ HW_ => ?_)
       generalize wr.drew = w13 at HB hx143_0 hx143_1 hHeld ⊢
       refine (pu 0 (some 12) 1 ?_ ?_ HT_ rfl rfl (by kernel_rfl) (fun _ _ _ h => h) ?_ ?_ ?_ (pu 1 (some 13) 3 ?_ ?_ HT_ rfl rfl (by kernel_rfl) (fun _ _ _ h => h) ?_ ?_ ?_ (pu 2 (some 14) 7 ?_ ?_ HT_ rfl rfl (by kernel_rfl) (fun _ _ _ h => h) ?_ ?_ ?_ (pu 3 (some 15) 15 ?_ ?_ HT_ rfl rfl (by kernel_rfl) (fun _ _ _ h => h) ?_ ?_ ?_ (pu 5 (some 17) 47 ?_ ?_ HT_ rfl rfl (by kernel_rfl) (fun _ _ _ h => h) ?_ ?_ ?_ (tk 4 (some 16) 63 ?_ ?_ HT_ HW_ rfl rfl (by kernel_rfl) (fun _ _ _ h => h) hHeld ?_ ?_ ?_ ?_))))))
       all_goals first | (rintro w' ⟨s0, s1⟩; go_simp; with_reducible rfl) | (intro w'; go_simp; with_reducible rfl) | (simp only [Act.put, List.setIfInBounds_toArray, List.set_cons_zero, List.set_cons_succ, i64_w, i32_w]; rfl) | rfl | skip
       refine one_ (i := 6) (N := some 18) (bz 8 127) rfl rfl (one_of HT_.out (by kernel_rfl)) (by decide) (fun K hK => ?_)
       refine goes_ Try.func124 (by kernel_rfl) rfl #[.int .i64 x1_1] (by rfl) rfl rfl (by (try simp only [List.map_toArray, List.map_cons, List.map_nil]); first | done | rfl | (simp only [List.length_drop, List.length_take]; rfl)) ?_
       with_reducible refine (laws_markText.calls k1 x1_1 t144 _ A5.out).mono ?_
       rintro e w14 ⟨rfl, hb⟩
       refine ⟨_, rfl, ?_⟩
       have n0_ := aM (below_step (by repeat (first | (with_reducible first | exact HB.out | apply aW1 | apply aW2 | apply aW3) | exact HB.out)) hb)
       clear HB; have HB := n0_; clear n0_
       (try clear hb)
       (try clear hb2)
       (try clear hk)
       (try clear hi)
       refine hK.out _ _ ⟨((HB.out.cell (World.block_lt_of_cell? w _ hw143_0)).trans hw143_0), ((HB.out.cell (World.block_lt_of_cell? w _ hw143_1)).trans hw143_1)⟩ (fun hHeld => ?_)
       clear hK K
       refine norm_ (a' := ?_) ?_ ?_
       rotate_left
       ·show Act.put _ (some 18) _ = _
        simp only [Act.put, List.setIfInBounds_toArray, List.set_cons_zero, List.set_cons_succ, i64_w, i32_w]
        rfl
       refine (pu 7 (some 19) 255 ?_ ?_ HT_ rfl rfl (by kernel_rfl) (fun _ _ _ h => h) ?_ ?_ ?_ ?_)
       all_goals first | (intro w'; go_simp; with_reducible rfl) | (simp only [Act.put, List.setIfInBounds_toArray, List.set_cons_zero, List.set_cons_succ, i64_w, i32_w]; rfl) | rfl | skip
       refine done_ (done_of HT_.out (by kernel_rfl)) ?_
       try go_wp2
       have n0_ := aM (below_drew1 HB.out)
       clear HB; have HB := n0_; clear n0_
       have p145 : 0 ≤ (x5_1 : Int) := of_decide_eq_true (by first | (with_reducible assumption) | assumption)
       have q145 : x5_1 < (l0.length : Int) := of_decide_eq_true (by first | (with_reducible assumption) | assumption)
       obtain ⟨ad145, e145, hx145_0, hx145_1⟩ := at_T86 HR0.out x5_1 p145 q145
       have hw145_1 := hx145_1
       have hw145_0 := hx145_0
       obtain rfl : ad143 = ad145 := (by injection e145)
       replace hx145_0 := (HB.out.cell (World.block_lt_of_cell? w _ hx145_0)).trans hx145_0
       replace hx145_1 := (HB.out.cell (World.block_lt_of_cell? w _ hx145_1)).trans hx145_1
       replace p145 := eq_true p145
       replace q145 := eq_true q145
       refine start_ (n := 8) (S := fun w' => w'.cell? (ad143.add ((x5_1).toNat * 2)) = some (.string ((rd_T86 l0 x5_1).f0)) ∧ w'.cell? ⟨(ad143.add ((x5_1).toNat * 2)).block, (ad143.add ((x5_1).toNat * 2)).off + 1, none⟩ = some (.string ((rd_T86 l0 x5_1).f1))) (ds := []) (bz 8 0) (by kernel_rfl) rfl (by kernel_rfl) ⟨((HB.out.cell (World.block_lt_of_cell? w _ hw145_0)).trans hw145_0), ((HB.out.cell (World.block_lt_of_cell? w _ hw145_1)).trans hw145_1)⟩ (fun hHeld => ?_); refine with_tabW laws_heldLabelS.tab7 laws_heldLabelS.bits7 (fun HT_ HW_ => ?_)
       generalize w14.drew = w15 at HB hx145_0 hx145_1 hHeld ⊢
       refine (pu 0 (some 22) 1 ?_ ?_ HT_ rfl rfl (by kernel_rfl) (fun _ _ _ h => h) ?_ ?_ ?_ (pu 1 (some 23) 3 ?_ ?_ HT_ rfl rfl (by kernel_rfl) (fun _ _ _ h => h) ?_ ?_ ?_ (pu 2 (some 24) 7 ?_ ?_ HT_ rfl rfl (by kernel_rfl) (fun _ _ _ h => h) ?_ ?_ ?_ (pu 3 (some 25) 15 ?_ ?_ HT_ rfl rfl (by kernel_rfl) (fun _ _ _ h => h) ?_ ?_ ?_ (pu 5 (some 27) 47 ?_ ?_ HT_ rfl rfl (by kernel_rfl) (fun _ _ _ h => h) ?_ ?_ ?_ (tk 4 (some 26) 63 ?_ ?_ HT_ HW_ rfl rfl (by kernel_rfl) (fun _ _ _ h => h) hHeld ?_ ?_ ?_ ?_))))))
       all_goals first | (rintro w' ⟨s0, s1⟩; go_simp; with_reducible rfl) | (intro w'; go_simp; with_reducible rfl) | (simp only [Act.put, List.setIfInBounds_toArray, List.set_cons_zero, List.set_cons_succ, i64_w, i32_w]; rfl) | rfl | skip
       refine one_ (i := 6) (N := some 28) (bz 8 127) rfl rfl (one_of HT_.out (by kernel_rfl)) (by decide) (fun K hK => ?_)
       refine goes_ Try.func124 (by kernel_rfl) rfl #[.int .i64 (wrap64 (x1_1 + 1))] (by rfl) rfl rfl (by (try simp only [List.map_toArray, List.map_cons, List.map_nil]); first | done | rfl | (simp only [List.length_drop, List.length_take]; rfl)) ?_
       with_reducible refine (laws_markText.calls k1 (wrap64 (x1_1 + 1)) t146 _ A7.out).mono ?_
       rintro e w16 ⟨rfl, hb⟩
       refine ⟨_, rfl, ?_⟩
       have n0_ := aM (below_step (by repeat (first | (with_reducible first | exact HB.out | apply aW1 | apply aW2 | apply aW3) | exact HB.out)) hb)
       clear HB; have HB := n0_; clear n0_
       (try clear hb)
       (try clear hb2)
       (try clear hk)
       (try clear hi)
       refine hK.out _ _ ⟨((HB.out.cell (World.block_lt_of_cell? w _ hw145_0)).trans hw145_0), ((HB.out.cell (World.block_lt_of_cell? w _ hw145_1)).trans hw145_1)⟩ (fun hHeld => ?_)
       clear hK K
       refine norm_ (a' := ?_) ?_ ?_
       rotate_left
       ·show Act.put _ (some 28) _ = _
        simp only [Act.put, List.setIfInBounds_toArray, List.set_cons_zero, List.set_cons_succ, i64_w, i32_w]
        rfl
       refine (pu 7 (some 29) 255 ?_ ?_ HT_ rfl rfl (by kernel_rfl) (fun _ _ _ h => h) ?_ ?_ ?_ ?_)
       all_goals first | (intro w'; go_simp; with_reducible rfl) | (simp only [Act.put, List.setIfInBounds_toArray, List.set_cons_zero, List.set_cons_succ, i64_w, i32_w]; rfl) | rfl | skip
       refine done_ (done_of HT_.out (by kernel_rfl)) ?_
       try go_wp2
       go_ret
       exact ⟨by first | rfl | (simp [errW_none, errW_some] <;> rfl) | (simp [*, errW_none, errW_some] <;> rfl), by repeat (first | (with_reducible first | exact HB.out | apply aW1 | apply aW2 | apply aW3) | exact HB.out)⟩
     ·rw [if_neg c6] at H
      have c6b0 : (((rd_T86 l0 x5_1).f0).toList == t144.toList) = false := beq_eq_false_iff_ne.mpr c6
      have c6b1 : (((rd_T86 l0 x5_1).f0).toList != t144.toList) = true := bne_iff_ne.mpr c6
      obtain rfl := Option.some.inj H
      try go_wp2
      have n0_ := aM (below_drew1 HB.out)
      clear HB; have HB := n0_; clear n0_
      have p143 : 0 ≤ (x5_1 : Int) := of_decide_eq_true (by first | (with_reducible assumption) | assumption)
      have q143 : x5_1 < (l0.length : Int) := of_decide_eq_true (by first | (with_reducible assumption) | assumption)
      obtain ⟨ad143, e143, hx143_0, hx143_1⟩ := at_T86 HR0.out x5_1 p143 q143
      have hw143_1 := hx143_1
      have hw143_0 := hx143_0
      cases e143
      replace hx143_0 := (HB.out.cell (World.block_lt_of_cell? w _ hx143_0)).trans hx143_0
      replace hx143_1 := (HB.out.cell (World.block_lt_of_cell? w _ hx143_1)).trans hx143_1
      replace p143 := eq_true p143
      replace q143 := eq_true q143
      refine start_ (n := 8) (S := fun w' => w'.cell? (ad143.add ((x5_1).toNat * 2)) = some (.string ((rd_T86 l0 x5_1).f0)) ∧ w'.cell? ⟨(ad143.add ((x5_1).toNat * 2)).block, (ad143.add ((x5_1).toNat * 2)).off + 1, none⟩ = some (.string ((rd_T86 l0 x5_1).f1))) (ds := []) (bz 8 0) (by kernel_rfl) rfl (by kernel_rfl) ⟨((HB.out.cell (World.block_lt_of_cell? w _ hw143_0)).trans hw143_0), ((HB.out.cell (World.block_lt_of_cell? w _ hw143_1)).trans hw143_1)⟩ (fun hHeld => ?_); refine with_tabW laws_heldLabelS.tab4 laws_heldLabelS.bits4 (fun HT_ HW_ => ?_)
      generalize wr.drew = w17 at HB hx143_0 hx143_1 hHeld ⊢
      refine (pu 0 (some 12) 1 ?_ ?_ HT_ rfl rfl (by kernel_rfl) (fun _ _ _ h => h) ?_ ?_ ?_ (pu 1 (some 13) 3 ?_ ?_ HT_ rfl rfl (by kernel_rfl) (fun _ _ _ h => h) ?_ ?_ ?_ (pu 2 (some 14) 7 ?_ ?_ HT_ rfl rfl (by kernel_rfl) (fun _ _ _ h => h) ?_ ?_ ?_ (pu 3 (some 15) 15 ?_ ?_ HT_ rfl rfl (by kernel_rfl) (fun _ _ _ h => h) ?_ ?_ ?_ (pu 5 (some 17) 47 ?_ ?_ HT_ rfl rfl (by kernel_rfl) (fun _ _ _ h => h) ?_ ?_ ?_ (tk 4 (some 16) 63 ?_ ?_ HT_ HW_ rfl rfl (by kernel_rfl) (fun _ _ _ h => h) hHeld ?_ ?_ ?_ ?_))))))
      all_goals first | (rintro w' ⟨s0, s1⟩; go_simp; with_reducible rfl) | (intro w'; go_simp; with_reducible rfl) | (simp only [Act.put, List.setIfInBounds_toArray, List.set_cons_zero, List.set_cons_succ, i64_w, i32_w]; rfl) | rfl | skip
      refine one_ (i := 6) (N := some 18) (bz 8 127) rfl rfl (one_of HT_.out (by kernel_rfl)) (by decide) (fun K hK => ?_)
      refine goes_ Try.func124 (by kernel_rfl) rfl #[.int .i64 x1_1] (by rfl) rfl rfl (by (try simp only [List.map_toArray, List.map_cons, List.map_nil]); first | done | rfl | (simp only [List.length_drop, List.length_take]; rfl)) ?_
      with_reducible refine (laws_markText.calls k1 x1_1 t144 _ A5.out).mono ?_
      rintro e w18 ⟨rfl, hb⟩
      refine ⟨_, rfl, ?_⟩
      have n0_ := aM (below_step (by repeat (first | (with_reducible first | exact HB.out | apply aW1 | apply aW2 | apply aW3) | exact HB.out)) hb)
      clear HB; have HB := n0_; clear n0_
      (try clear hb)
      (try clear hb2)
      (try clear hk)
      (try clear hi)
      refine hK.out _ _ ⟨((HB.out.cell (World.block_lt_of_cell? w _ hw143_0)).trans hw143_0), ((HB.out.cell (World.block_lt_of_cell? w _ hw143_1)).trans hw143_1)⟩ (fun hHeld => ?_)
      clear hK K
      refine norm_ (a' := ?_) ?_ ?_
      rotate_left
      ·show Act.put _ (some 18) _ = _
       simp only [Act.put, List.setIfInBounds_toArray, List.set_cons_zero, List.set_cons_succ, i64_w, i32_w]
       rfl
      refine (pu 7 (some 19) 255 ?_ ?_ HT_ rfl rfl (by kernel_rfl) (fun _ _ _ h => h) ?_ ?_ ?_ ?_)
      all_goals first | (intro w'; go_simp; with_reducible rfl) | (simp only [Act.put, List.setIfInBounds_toArray, List.set_cons_zero, List.set_cons_succ, i64_w, i32_w]; rfl) | rfl | skip
      refine done_ (done_of HT_.out (by kernel_rfl)) ?_
      try go_wp2
      go_ret
      exact ⟨by first | rfl | (simp [errW_none, errW_some] <;> rfl) | (simp [*, errW_none, errW_some] <;> rfl), by repeat (first | (with_reducible first | exact HB.out | apply aW1 | apply aW2 | apply aW3) | exact HB.out)⟩
    ·rw [if_neg c4] at H
     exact absurd H (by simp)
   ·rw [if_neg c3] at H; have c3b0 : decide (x5_1 < (l0.length : Int)) = false := decide_eq_false c3; clear c3
    obtain rfl := Option.some.inj H
    go_wp2
    go_ret
    exact ⟨by first | rfl | (simp [errW_none, errW_some] <;> rfl) | (simp [*, errW_none, errW_some] <;> rfl), by repeat (first | (with_reducible first | exact HB.out | apply aW1 | apply aW2 | apply aW3) | exact HB.out)⟩

end Go.Proofs.Ytgindocfjoalhab.PFnExactSortSet
