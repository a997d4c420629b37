/- What the Go functions that FnChains reaches compute, as Lean functions, and that the machine's calls do so; no conditions. -/
import Derived.Test.YtdhignbneeapiaaPFnChainsx0
import Derived.Test.YtdhignbneeapiaaPFnChainsx2
import Derived.Test.YtdhignbneeapiaaPFnChainsx7
import Derived.Test.YtdhignbneeapiaaPFnChainsx17
namespace Go.Proofs.Ytdhignbneeapiaa.PFnChains
open Go.Proofs.Ytdhignbneeapiaa
open Go.RowKit Go.Proofs.YtdhignbneeapiaaW.PrintWords Go.Proofs.YtdhignbneeapiaaW.PrintLast Go.Proofs.YtdhignbneeapiaaW.PrintMore
attribute [local go_sem] max2_int min2_int max_two min_two max_three min_three max_four min_four   -- for this text's walks alone
set_option linter.unusedVariables false
set_option linter.unusedSimpArgs false

/-! ### spec_ChainOk: function 16 -/
mutual
def spec_ChainOk.l0 : Nat → Int → Int → List (S29) → Option (Bool)
 | 0, _, _, _ => none
 | k + 1, x3, x747000, x747001 => if x3 < (x747001.length : Int) then (if 0 ≤ x3 then ((spec_AlarmOk.f k ((rd_T29 x747001 x3).f0) ((rd_T29 x747001 x3).f1) ((rd_T29 x747001 x3).f2) ((rd_T29 x747001 x3).f3)).bind fun t748 => (if t748 = true then ((spec_Finger.f k ((rd_T29 x747001 x3).f0)).bind fun t750 => (spec_ChainOk.j1 k x3 (t750 != x747000) x747000 x747001)) else (spec_ChainOk.j1 k x3 true x747000 x747001))) else (none)) else (some (decide ((x747001.length : Int) > 0)))
def spec_ChainOk.j1 : Nat → Int → Bool → Int → List (S29) → Option (Bool)
 | 0, _, _, _, _ => none
 | k + 1, x3, x30, x747000, x747001 => if x30 = true then (some false) else (spec_ChainOk.l1 k x3 0 x747000 x747001)
def spec_ChainOk.l1 : Nat → Int → Int → Int → List (S29) → Option (Bool)
 | 0, _, _, _, _ => none
 | k + 1, x3, x4, x747000, x747001 => if x4 < x3 then (if 0 ≤ x4 then (if x4 < (x747001.length : Int) then (if 0 ≤ x3 then (if x3 < (x747001.length : Int) then ((spec_SameSet.f k ((rd_T29 x747001 x4).f0) ((rd_T29 x747001 x3).f0)).bind fun t753 => (if t753 = true then (some false) else (spec_ChainOk.l1 k x3 (wrap64 (x4 + 1)) x747000 x747001))) else (none)) else (none)) else (none)) else (none)) else (spec_ChainOk.l0 k (wrap64 (x3 + 1)) x747000 x747001)
end
def spec_ChainOk.f (k : Nat) (a0_0 : Int) (l0_1 : List (S29)) : Option (Bool) := spec_ChainOk.l0 k 0 a0_0 l0_1
def spec_ChainOk.T4 : Bool × List (List Nat × List Nat) := (true, [([], []), ([0], [0]), ([], []), ([1, 2], [1, 2]), ([3], [3]), ([4], [4]), ([5], [5]), ([6, 5], [6]), ([7], [7]), ([8, 7], [7, 8]), ([7], [7]), ([9, 10, 7], [7, 9, 10]), ([11, 7], [7, 11]), ([12, 7], [7, 12]), ([13, 7, 7], [7, 13]), ([7], [7]), ([15, 7], [7, 15]), ([14, 16, 7], [7, 14, 16]), ([7, 17], [7, 17])])
def spec_ChainOk.B4 : List Nat := [0, 1, 0, 7, 15, 31, 63, 127, 255, 511, 255, 2047, 4095, 8191, 16383, 255, 33023, 131071, 262143]
theorem spec_ChainOk.tab4 : rtab .any (opsOf Try.f16 4) = spec_ChainOk.T4 := by kernel_rfl
theorem spec_ChainOk.bits4 : waitsOk spec_ChainOk.T4.2 spec_ChainOk.B4 = true := by kernel_rfl
def spec_ChainOk.T9 : Bool × List (List Nat × List Nat) := (true, [([], []), ([0], [0]), ([], []), ([1, 2], [1, 2]), ([3], [3]), ([4], [4]), ([], []), ([6], [6]), ([], []), ([7, 8], [7, 8]), ([9], [9]), ([10], [10]), ([5, 11], [5, 11])])
def spec_ChainOk.B9 : List Nat := [0, 1, 0, 7, 15, 31, 0, 64, 0, 448, 960, 1984, 4095]
theorem spec_ChainOk.tab9 : rtab .any (opsOf Try.f16 9) = spec_ChainOk.T9 := by kernel_rfl
theorem spec_ChainOk.bits9 : waitsOk spec_ChainOk.T9.2 spec_ChainOk.B9 = true := by kernel_rfl
set_option maxHeartbeats 8000000 in
set_option maxRecDepth 100000 in
theorem spec_ChainOk.calls (k : Nat) (a0_0 : Int) (A0_1 : Option Addr) (c0_1 : Nat) (l0_1 : List (S29)) (r : Bool) (w : World) (hr0_1 : Kd.C k29 w A0_1 l0_1.length l0_1) (hc0_1 : l0_1.length ≤ c0_1) (h : spec_ChainOk.f k a0_0 l0_1 = some r) :
  Calls Try.prog 16 #[.agg #[.int .i64 a0_0, .slice A0_1 l0_1.length c0_1]] w fun e w' => e = .returned (.bool r) ∧ Below w.heap.size w w' := by
 have hu26 := Try.underlying26
 have hu29 := Try.underlying29
 have HR0_1 := aM hr0_1
 have HC0_1 := aM hc0_1
 clear hr0_1 hc0_1
 have HB := aM (Below.refl w.heap.size w)
 have H : (spec_ChainOk.l0 k 0 a0_0 l0_1) = some r := h
 clear h
 have H' := aM H
 clear H
 go_enter Try.func16, Try.ntmps16
 go_wp2_with (first | (refine be_ 1 #[.int .i64 a0_0, .slice A0_1 l0_1.length c0_1] 26 ?_; intro gb746 hg w2 hbox hb; have BK746 := aM (hbox); have GW746 := gw hg (bw HB); have GE746 := gw hg (bw HB); replace HB := aM (below_step (bw HB) hb); clear hb hbox hg))
 go_loopg [3] k (fun kq v3 w' => ∃ (x3_1 : Int), v3 = .int .i64 x3_1 ∧ Aside0 (spec_ChainOk.l0 kq x3_1 a0_0 l0_1 = some r) ∧ Aside0 (kq ≤ k) ∧ Aside0 (w'.heap[gb746]? = some (.cells #[.int .i64 a0_0, (.slice A0_1 l0_1.length c0_1)] 26 (0, 0))) ∧ Aside0 (Below w.heap.size w w'))
 case atStart => exact ⟨(0), rs_, H', ⟨Nat.le_refl _⟩, ⟨by exact aB BK746⟩, ⟨(bw HB)⟩⟩
 case round =>
  clear H'
  try clear c1
  try clear p2
  obtain ⟨x3_1, rfl, HA, HK1, BK746, HB⟩ := hrel
  cases gk with
  | zero => exact absurd HA.out (by simp [spec_ChainOk.l0])
  | succ k1 =>
   have H := HA.out
   clear HA
   simp only [spec_ChainOk.l0] at H
   by_cases c3 : x3_1 < (l0_1.length : Int)
   ·rw [if_pos c3] at H; have c3b0 : decide (x3_1 < (l0_1.length : Int)) = true := decide_eq_true c3; clear c3
    have HC4 := aM H
    clear H; obtain ⟨hcz5_0, hcz5_1⟩ := zc2 BK746; have hfz5_0 := zf BK746
    go_upto_region 4 with (fail)
    go_cut [30] (fun v30 wc => ∃ (kq : Nat) (x30_3 : Bool), v30 = .bool x30_3 ∧ Aside0 (spec_ChainOk.j1 kq x3_1 x30_3 a0_0 l0_1 = some r) ∧ Aside0 (kq ≤ k1) ∧ Aside0 (wc.heap[gb746]? = some (.cells #[.int .i64 a0_0, (.slice A0_1 l0_1.length c0_1)] 26 (0, 0))) ∧ Aside0 (Below w.heap.size w wc))
    case first =>
     have H := HC4.out
     clear HC4
     by_cases c6 : 0 ≤ x3_1
     ·rw [if_pos c6] at H; have c6b0 : decide (0 ≤ x3_1) = true := decide_eq_true c6; clear c6
      (first | rw [c6b0] | (simp only [i64_w, i32_w]; rw [c6b0]) | skip)
      replace H := bs_ H; obtain ⟨t748, A70, H⟩ := H; try dsimp only at H
      have A7 := aM A70
      clear A70
      by_cases c8 : t748 = true
      ·subst c8
       have H1 : ((spec_Finger.f k1 ((rd_T29 l0_1 x3_1).f0)).bind fun t750 => (spec_ChainOk.j1 k1 x3_1 (t750 != a0_0) a0_0 l0_1)) = some r := by rw [if_pos rfl] at H; exact H
       clear H
       have H := H1
       clear H1; replace H := bs_ H; obtain ⟨t750, A90, H⟩ := H; try dsimp only at H
       have A9 := aM A90
       clear A90
       have H' := aM H
       clear H
       try go_wp2
       replace BK746 := aM (blk_drew BK746.out)
       replace HB := aM (below_drew1 HB.out)
       have p747 : 0 ≤ (x3_1 : Int) := of_decide_eq_true as_
       have q747 : x3_1 < (l0_1.length : Int) := of_decide_eq_true as_
       obtain ⟨ad747, A747_0, c747_0, e747, hx747_0, hx747_1, hx747_2, hx747_3, hl747_0, hi747_0⟩ := at_T29 HR0_1.out x3_1 p747 q747
       have hw747_3 := hx747_3
       have hw747_2 := hx747_2
       have hw747_1 := hx747_1
       have hw747_0 := hx747_0
       cases e747
       replace hx747_0 := cb HB hx747_0
       replace hx747_1 := cb HB hx747_1
       replace hx747_2 := cb HB hx747_2
       replace hx747_3 := cb HB hx747_3
       have HR747_0 := aM hi747_0
       have HC747_0 := aM hl747_0
       clear hi747_0 hl747_0
       replace p747 := eq_true p747
       replace q747 := eq_true q747
       have p749 : 0 ≤ (x3_1 : Int) := of_decide_eq_true as_
       have q749 : x3_1 < (l0_1.length : Int) := of_decide_eq_true as_
       obtain ⟨ad749, A749_0, c749_0, e749, hx749_0, hx749_1, hx749_2, hx749_3, hl749_0, hi749_0⟩ := at_T29 HR0_1.out x3_1 p749 q749
       have hw749_3 := hx749_3
       have hw749_2 := hx749_2
       have hw749_1 := hx749_1
       have hw749_0 := hx749_0
       obtain rfl : ad747 = ad749 := (by injection e749)
       replace hx749_0 := cb HB hx749_0
       replace hx749_1 := cb HB hx749_1
       replace hx749_2 := cb HB hx749_2
       replace hx749_3 := cb HB hx749_3
       have HR749_0 := aM hi749_0
       have HC749_0 := aM hl749_0
       clear hi749_0 hl749_0
       obtain ⟨rfl, rfl⟩ : A747_0 = A749_0 ∧ c747_0 = c749_0 := by have e_ := hw747_0.symm.trans hw749_0; simpa using e_
       replace p749 := eq_true p749
       replace q749 := eq_true q749
       refine start_ (n := 19) (S := fun w' => w'.cell? ⟨gb746, 0, none⟩ = some (.int .i64 a0_0) ∧ w'.cell? ⟨gb746, 1, none⟩ = some (.slice (some ad747) l0_1.length c0_1) ∧ w'.cell? (ad747.add ((x3_1).toNat * 4)) = some (.slice A747_0 ((rd_T29 l0_1 x3_1).f0).length c747_0) ∧ w'.cell? ⟨(ad747.add ((x3_1).toNat * 4)).block, (ad747.add ((x3_1).toNat * 4)).off + 1, none⟩ = some (.int .i64 ((rd_T29 l0_1 x3_1).f1)) ∧ w'.cell? ⟨(ad747.add ((x3_1).toNat * 4)).block, (ad747.add ((x3_1).toNat * 4)).off + 2, none⟩ = some (.int .i64 ((rd_T29 l0_1 x3_1).f2)) ∧ w'.cell? ⟨(ad747.add ((x3_1).toNat * 4)).block, (ad747.add ((x3_1).toNat * 4)).off + 3, none⟩ = some (.string ((rd_T29 l0_1 x3_1).f3)) ∧ w'.cell? (ad747.add ((x3_1).toNat * 4)) = some (.slice A747_0 ((rd_T29 l0_1 x3_1).f0).length c747_0) ∧ w'.cell? ⟨(ad747.add ((x3_1).toNat * 4)).block, (ad747.add ((x3_1).toNat * 4)).off + 1, none⟩ = some (.int .i64 ((rd_T29 l0_1 x3_1).f1)) ∧ w'.cell? ⟨(ad747.add ((x3_1).toNat * 4)).block, (ad747.add ((x3_1).toNat * 4)).off + 2, none⟩ = some (.int .i64 ((rd_T29 l0_1 x3_1).f2)) ∧ w'.cell? ⟨(ad747.add ((x3_1).toNat * 4)).block, (ad747.add ((x3_1).toNat * 4)).off + 3, none⟩ = some (.string ((rd_T29 l0_1 x3_1).f3))) (ds := []) (bz 19 0) (by kernel_rfl) rfl (by kernel_rfl) ⟨(blk_cell BK746.out 0).trans rfl, (blk_cell BK746.out 1).trans rfl, (cB HB hw747_0), (cB HB hw747_1), (cB HB hw747_2), (cB HB hw747_3), (cB HB hw749_0), (cB HB hw749_1), (cB HB hw749_2), (cB HB hw749_3)⟩ (fun hHeld => ?_); refine with_tabW spec_ChainOk.tab4 spec_ChainOk.bits4 (fun HT_ HW_ => ?_)
       generalize wr.drew = w10 at BK746 HB HR747_0 HR749_0 hx747_0 hx747_1 hx747_2 hx747_3 hx749_0 hx749_1 hx749_2 hx749_3 hHeld ⊢
       refine (pu 0 (some 12) 1 ?_ ?_ HT_ ?_ ?_ ?_ (pu 2 (some 14) 5 ?_ ?_ HT_ ?_ ?_ ?_ (tk 1 (some 13) 7 ?_ ?_ HT_ HW_ hHeld ?_ ?_ ?_ (pu 3 (some 15) 15 ?_ ?_ HT_ ?_ ?_ ?_ (tk 4 (some 16) 31 ?_ ?_ HT_ HW_ hHeld ?_ ?_ ?_ ?_)))))
       all_goals first | (rintro w' ⟨s0, s1, s2, s3, s4, s5, s6, s7, s8, s9⟩; go_simp; with_reducible rfl) | (intro w'; go_simp; with_reducible rfl) | (simp only [u6_]; rfl) | rfl | skip
       refine one_ (i := 5) (N := some 17) (bz 19 63) rfl rfl (one_of HT_.out (by kernel_rfl)) (by decide) (fun K hK => ?_)
       refine goes_ Try.func41 (by kernel_rfl) rfl #[.agg #[.slice A747_0 ((rd_T29 l0_1 x3_1).f0).length c747_0, .int .i64 ((rd_T29 l0_1 x3_1).f1), .int .i64 ((rd_T29 l0_1 x3_1).f2), .string ((rd_T29 l0_1 x3_1).f3)]] (by rfl) rfl rfl mp ?_
       with_reducible refine (spec_AlarmOk.calls k1 _ _ ((rd_T29 l0_1 x3_1).f0) ((rd_T29 l0_1 x3_1).f1) ((rd_T29 l0_1 x3_1).f2) ((rd_T29 l0_1 x3_1).f3) true _ ?side1 ?side2 A7.out).mono ?_
       (case side1 => exact cA (Kd.C_below HR747_0.out HB.out))
       (case side2 => exact HC747_0.out)
       rintro e w11 ⟨rfl, hb⟩
       refine ⟨_, rfl, ?_⟩
       replace BK746 := bb BK746 hb
       replace HB := aM (below_step (bw HB) hb)
       (try clear hb)
       (try clear hb2)
       (try clear hk)
       (try clear hi)
       refine hK.out _ _ ⟨(blk_cell BK746.out 0).trans rfl, (blk_cell BK746.out 1).trans rfl, (cB HB hw747_0), (cB HB hw747_1), (cB HB hw747_2), (cB HB hw747_3), (cB HB hw749_0), (cB HB hw749_1), (cB HB hw749_2), (cB HB hw749_3)⟩ (fun hHeld => ?_)
       clear hK K
       refine norm_ (a' := ?_) ?_ ?_
       rotate_left
       ·show Act.put _ (some 17) _ = _
        simp only [u6_]
        rfl
       refine (pu 6 (some 18) 127 ?_ ?_ HT_ ?_ ?_ ?_ (pu 7 (some 19) 255 ?_ ?_ HT_ ?_ ?_ ?_ (pu 8 (some 20) 511 ?_ ?_ HT_ ?_ ?_ ?_ (pu 10 (some 22) 1535 ?_ ?_ HT_ ?_ ?_ ?_ (pu 15 (some 27) 34303 ?_ ?_ HT_ ?_ ?_ ?_ (tk 9 (some 21) 34815 ?_ ?_ HT_ HW_ hHeld ?_ ?_ ?_ (pu 11 (some 23) 36863 ?_ ?_ HT_ ?_ ?_ ?_ (pu 12 (some 24) 40959 ?_ ?_ HT_ ?_ ?_ ?_ (tk 13 (some 25) 49151 ?_ ?_ HT_ HW_ hHeld ?_ ?_ ?_ (tk 16 (some 28) 114687 ?_ ?_ HT_ HW_ hHeld ?_ ?_ ?_ ?_))))))))))
       all_goals first | (rintro w' ⟨s0, s1, s2, s3, s4, s5, s6, s7, s8, s9⟩; go_simp; with_reducible rfl) | (intro w'; go_simp; with_reducible rfl) | (simp only [u6_]; rfl) | rfl | skip
       refine one_ (i := 14) (N := some 26) (bz 19 131071) rfl rfl (one_of HT_.out (by kernel_rfl)) (by decide) (fun K hK => ?_)
       refine goes_ Try.func42 (by kernel_rfl) rfl #[.slice A747_0 ((rd_T29 l0_1 x3_1).f0).length c747_0] (by rfl) rfl rfl mp ?_
       with_reducible refine (spec_Finger.calls k1 _ _ ((rd_T29 l0_1 x3_1).f0) t750 _ ?side1 ?side2 A9.out).mono ?_
       (case side1 => exact cA (Kd.C_below HR749_0.out HB.out))
       (case side2 => exact HC749_0.out)
       rintro e w12 ⟨rfl, hb⟩
       refine ⟨_, rfl, ?_⟩
       replace BK746 := bb BK746 hb
       replace HB := aM (below_step (bw HB) hb)
       (try clear hb)
       (try clear hb2)
       (try clear hk)
       (try clear hi)
       refine hK.out _ _ ⟨(blk_cell BK746.out 0).trans rfl, (blk_cell BK746.out 1).trans rfl, (cB HB hw747_0), (cB HB hw747_1), (cB HB hw747_2), (cB HB hw747_3), (cB HB hw749_0), (cB HB hw749_1), (cB HB hw749_2), (cB HB hw749_3)⟩ (fun hHeld => ?_)
       clear hK K
       refine norm_ (a' := ?_) ?_ ?_
       rotate_left
       ·show Act.put _ (some 26) _ = _
        simp only [u6_]
        rfl
       refine (pu 17 (some 29) 262143 ?_ ?_ HT_ ?_ ?_ ?_ (pu 18 (some 30) 524287 ?_ ?_ HT_ ?_ ?_ ?_ ?_))
       all_goals first | (intro w'; go_simp; with_reducible rfl) | (simp only [u6_]; rfl) | rfl | skip
       refine done_ (done_of HT_.out (by kernel_rfl)) ?_
       try go_wp2
       go_meet
       case rel => exact ⟨_, ((t750 != a0_0)), rs_, H', ⟨by have := HK1.out; first | omega | exact Nat.le_refl _⟩, ⟨by exact aB BK746⟩, ⟨(bw HB)⟩⟩
      ·replace c8 := Bool.eq_false_iff.mpr c8
       subst c8
       have H1 : (spec_ChainOk.j1 k1 x3_1 true a0_0 l0_1) = some r := by rw [if_neg (show ¬ (false = true) by decide)] at H; exact H
       clear H
       have H := H1
       clear H1
       have H' := aM H
       clear H
       try go_wp2
       replace BK746 := aM (blk_drew BK746.out)
       replace HB := aM (below_drew1 HB.out)
       have p747 : 0 ≤ (x3_1 : Int) := of_decide_eq_true as_
       have q747 : x3_1 < (l0_1.length : Int) := of_decide_eq_true as_
       obtain ⟨ad747, A747_0, c747_0, e747, hx747_0, hx747_1, hx747_2, hx747_3, hl747_0, hi747_0⟩ := at_T29 HR0_1.out x3_1 p747 q747
       have hw747_3 := hx747_3
       have hw747_2 := hx747_2
       have hw747_1 := hx747_1
       have hw747_0 := hx747_0
       cases e747
       replace hx747_0 := cb HB hx747_0
       replace hx747_1 := cb HB hx747_1
       replace hx747_2 := cb HB hx747_2
       replace hx747_3 := cb HB hx747_3
       have HR747_0 := aM hi747_0
       have HC747_0 := aM hl747_0
       clear hi747_0 hl747_0
       replace p747 := eq_true p747
       replace q747 := eq_true q747
       refine start_ (n := 19) (S := fun w' => w'.cell? ⟨gb746, 0, none⟩ = some (.int .i64 a0_0) ∧ w'.cell? ⟨gb746, 1, none⟩ = some (.slice (some ad747) l0_1.length c0_1) ∧ w'.cell? (ad747.add ((x3_1).toNat * 4)) = some (.slice A747_0 ((rd_T29 l0_1 x3_1).f0).length c747_0) ∧ w'.cell? ⟨(ad747.add ((x3_1).toNat * 4)).block, (ad747.add ((x3_1).toNat * 4)).off + 1, none⟩ = some (.int .i64 ((rd_T29 l0_1 x3_1).f1)) ∧ w'.cell? ⟨(ad747.add ((x3_1).toNat * 4)).block, (ad747.add ((x3_1).toNat * 4)).off + 2, none⟩ = some (.int .i64 ((rd_T29 l0_1 x3_1).f2)) ∧ w'.cell? ⟨(ad747.add ((x3_1).toNat * 4)).block, (ad747.add ((x3_1).toNat * 4)).off + 3, none⟩ = some (.string ((rd_T29 l0_1 x3_1).f3))) (ds := []) (bz 19 0) (by kernel_rfl) rfl (by kernel_rfl) ⟨(blk_cell BK746.out 0).trans rfl, (blk_cell BK746.out 1).trans rfl, (cB HB hw747_0), (cB HB hw747_1), (cB HB hw747_2), (cB HB hw747_3)⟩ (fun hHeld => ?_); refine with_tabW spec_ChainOk.tab4 spec_ChainOk.bits4 (fun HT_ HW_ => ?_)
       generalize wr.drew = w13 at BK746 HB HR747_0 hx747_0 hx747_1 hx747_2 hx747_3 hHeld ⊢
       refine (pu 0 (some 12) 1 ?_ ?_ HT_ ?_ ?_ ?_ (pu 2 (some 14) 5 ?_ ?_ HT_ ?_ ?_ ?_ (tk 1 (some 13) 7 ?_ ?_ HT_ HW_ hHeld ?_ ?_ ?_ (pu 3 (some 15) 15 ?_ ?_ HT_ ?_ ?_ ?_ (tk 4 (some 16) 31 ?_ ?_ HT_ HW_ hHeld ?_ ?_ ?_ ?_)))))
       all_goals first | (rintro w' ⟨s0, s1, s2, s3, s4, s5⟩; go_simp; with_reducible rfl) | (intro w'; go_simp; with_reducible rfl) | (simp only [u6_]; rfl) | rfl | skip
       refine one_ (i := 5) (N := some 17) (bz 19 63) rfl rfl (one_of HT_.out (by kernel_rfl)) (by decide) (fun K hK => ?_)
       refine goes_ Try.func41 (by kernel_rfl) rfl #[.agg #[.slice A747_0 ((rd_T29 l0_1 x3_1).f0).length c747_0, .int .i64 ((rd_T29 l0_1 x3_1).f1), .int .i64 ((rd_T29 l0_1 x3_1).f2), .string ((rd_T29 l0_1 x3_1).f3)]] (by rfl) rfl rfl mp ?_
       with_reducible refine (spec_AlarmOk.calls k1 _ _ ((rd_T29 l0_1 x3_1).f0) ((rd_T29 l0_1 x3_1).f1) ((rd_T29 l0_1 x3_1).f2) ((rd_T29 l0_1 x3_1).f3) false _ ?side1 ?side2 A7.out).mono ?_
       (case side1 => exact cA (Kd.C_below HR747_0.out HB.out))
       (case side2 => exact HC747_0.out)
       rintro e w14 ⟨rfl, hb⟩
       refine ⟨_, rfl, ?_⟩
       replace BK746 := bb BK746 hb
       replace HB := aM (below_step (bw HB) hb)
       (try clear hb)
       (try clear hb2)
       (try clear hk)
       (try clear hi)
       refine hK.out _ _ ⟨(blk_cell BK746.out 0).trans rfl, (blk_cell BK746.out 1).trans rfl, (cB HB hw747_0), (cB HB hw747_1), (cB HB hw747_2), (cB HB hw747_3)⟩ (fun hHeld => ?_)
       clear hK K
       refine norm_ (a' := ?_) ?_ ?_
       rotate_left
       ·show Act.put _ (some 17) _ = _
        simp only [u6_]
        rfl
       refine (pu 6 (some 18) 127 ?_ ?_ HT_ ?_ ?_ ?_ (pu 7 (some 19) 255 ?_ ?_ HT_ ?_ ?_ ?_ (po 8 (some 20) 511 ?_ HT_ ?_ ?_ (po 9 (some 21) 1023 ?_ HT_ ?_ ?_ (po 10 (some 22) 2047 ?_ HT_ ?_ ?_ (po 11 (some 23) 4095 ?_ HT_ ?_ ?_ (po 12 (some 24) 8191 ?_ HT_ ?_ ?_ (po 13 (some 25) 16383 ?_ HT_ ?_ ?_ (po 14 (some 26) 32767 ?_ HT_ ?_ ?_ (po 15 (some 27) 65535 ?_ HT_ ?_ ?_ (po 16 (some 28) 131071 ?_ HT_ ?_ ?_ (po 17 (some 29) 262143 ?_ HT_ ?_ ?_ (pu 18 (some 30) 524287 ?_ ?_ HT_ ?_ ?_ ?_ ?_)))))))))))))
       all_goals first | (intro w'; go_simp; with_reducible rfl) | (simp only [u6_]; rfl) | rfl | skip
       refine done_ (done_of HT_.out (by kernel_rfl)) ?_
       try go_wp2
       go_meet
       case rel => exact ⟨_, (true), rs_, H', ⟨by have := HK1.out; first | omega | exact Nat.le_refl _⟩, ⟨by exact aB BK746⟩, ⟨(bw HB)⟩⟩
     ·rw [if_neg c6] at H
      exact absurd H (by simp)
    case rest =>
     clear HC4
     try clear c1
     try clear p2
     try clear c3
     try clear c3b0
     try clear c4
     try clear c6
     try clear c6b0
     try clear c7
     try clear p7
     try clear q7
     try clear hx7
     try clear c8
     try clear hcz5_0
     try clear hcz5_1
     try clear hfz5_0
     try clear hfz5_1
     try clear hx747_0
     try clear hx747_1
     try clear hx747_2
     try clear hx747_3
     try clear hx749_0
     try clear hx749_1
     try clear hx749_2
     try clear hx749_3
     try clear p2
     try clear p747
     try clear p749
     try clear q747
     try clear q749
     obtain ⟨kq, x30_3, rfl, HA, HJ3, BK746, HB⟩ := hcut
     cases kq with
     | zero => exact absurd HA.out (by simp [spec_ChainOk.j1])
     | succ kj3 =>
      have H := HA.out
      clear HA
      simp only [spec_ChainOk.j1] at H
      by_cases c15 : x30_3 = true
      ·subst c15
       have H1 : (some false) = some r := by rw [if_pos rfl] at H; exact H
       clear H
       have H := H1
       clear H1
       obtain rfl := Option.some.inj H
       go_wp2
       go_ret
       exact ⟨er, (bw HB)⟩
      ·replace c15 := Bool.eq_false_iff.mpr c15
       subst c15
       have H1 : (spec_ChainOk.l1 kj3 x3_1 0 a0_0 l0_1) = some r := by rw [if_neg (show ¬ (false = true) by decide)] at H; exact H
       clear H
       have H := H1
       clear H1
       have H' := aM H
       clear H
       go_wp2
       go_loopg [4] kj3 (fun kq v4 w' => ∃ (x4_3 : Int), v4 = .int .i64 x4_3 ∧ Aside0 (spec_ChainOk.l1 kq x3_1 x4_3 a0_0 l0_1 = some r) ∧ Aside0 (kq ≤ kj3) ∧ Aside0 (w'.heap[gb746]? = some (.cells #[.int .i64 a0_0, (.slice A0_1 l0_1.length c0_1)] 26 (0, 0))) ∧ Aside0 (Below w.heap.size w w'))
       case atStart => exact ⟨(0), rs_, H', ⟨Nat.le_refl _⟩, ⟨by exact aB BK746⟩, ⟨(bw HB)⟩⟩
       case round =>
        clear H'
        try clear c1
        try clear p2
        try clear c3
        try clear c3b0
        try clear c4
        try clear c6
        try clear c6b0
        try clear c7
        try clear p7
        try clear q7
        try clear hx7
        try clear c8
        try clear c15
        try clear hcz5_0
        try clear hcz5_1
        try clear hfz5_0
        try clear hfz5_1
        try clear hx747_0
        try clear hx747_1
        try clear hx747_2
        try clear hx747_3
        try clear hx749_0
        try clear hx749_1
        try clear hx749_2
        try clear hx749_3
        try clear p2
        try clear p7
        try clear p747
        try clear p749
        try clear q7
        try clear q747
        try clear q749
        obtain ⟨x4_3, rfl, HA, HK3, BK746, HB⟩ := hrel
        cases gk with
        | zero => exact absurd HA.out (by simp [spec_ChainOk.l1])
        | succ k3 =>
         have H := HA.out
         clear HA
         simp only [spec_ChainOk.l1] at H
         by_cases c16 : x4_3 < x3_1
         ·rw [if_pos c16] at H; have c16b0 : decide (x4_3 < x3_1) = true := decide_eq_true c16; clear c16
          by_cases c17 : 0 ≤ x4_3
          ·rw [if_pos c17] at H; have c17b0 : decide (0 ≤ x4_3) = true := decide_eq_true c17; clear c17
           by_cases c18 : x4_3 < (l0_1.length : Int)
           ·rw [if_pos c18] at H; have c18b0 : decide (x4_3 < (l0_1.length : Int)) = true := decide_eq_true c18; clear c18
            by_cases c19 : 0 ≤ x3_1
            ·rw [if_pos c19] at H; have c19b0 : decide (0 ≤ x3_1) = true := decide_eq_true c19; clear c19
             by_cases c20 : x3_1 < (l0_1.length : Int)
             ·rw [if_pos c20] at H; have c20b0 : decide (x3_1 < (l0_1.length : Int)) = true := decide_eq_true c20; clear c20; replace H := bs_ H; obtain ⟨t753, A210, H⟩ := H; try dsimp only at H
              have A21 := aM A210
              clear A210
              by_cases c22 : t753 = true
              ·subst c22
               have H1 : (some false) = some r := by rw [if_pos rfl] at H; exact H
               clear H
               have H := H1
               clear H1
               obtain rfl := Option.some.inj H
               try go_wp2
               replace BK746 := aM (blk_drew BK746.out)
               replace HB := aM (below_drew1 HB.out)
               have p751 : 0 ≤ (x4_3 : Int) := of_decide_eq_true as_
               have q751 : x4_3 < (l0_1.length : Int) := of_decide_eq_true as_
               obtain ⟨ad751, A751_0, c751_0, e751, hx751_0, hx751_1, hx751_2, hx751_3, hl751_0, hi751_0⟩ := at_T29 HR0_1.out x4_3 p751 q751
               have hw751_3 := hx751_3
               have hw751_2 := hx751_2
               have hw751_1 := hx751_1
               have hw751_0 := hx751_0
               cases e751
               replace hx751_0 := cb HB hx751_0
               replace hx751_1 := cb HB hx751_1
               replace hx751_2 := cb HB hx751_2
               replace hx751_3 := cb HB hx751_3
               have HR751_0 := aM hi751_0
               have HC751_0 := aM hl751_0
               clear hi751_0 hl751_0
               replace p751 := eq_true p751
               replace q751 := eq_true q751
               have p752 : 0 ≤ (x3_1 : Int) := of_decide_eq_true as_
               have q752 : x3_1 < (l0_1.length : Int) := of_decide_eq_true as_
               obtain ⟨ad752, A752_0, c752_0, e752, hx752_0, hx752_1, hx752_2, hx752_3, hl752_0, hi752_0⟩ := at_T29 HR0_1.out x3_1 p752 q752
               have hw752_3 := hx752_3
               have hw752_2 := hx752_2
               have hw752_1 := hx752_1
               have hw752_0 := hx752_0
               obtain rfl : ad751 = ad752 := (by injection e752)
               replace hx752_0 := cb HB hx752_0
               replace hx752_1 := cb HB hx752_1
               replace hx752_2 := cb HB hx752_2
               replace hx752_3 := cb HB hx752_3
               have HR752_0 := aM hi752_0
               have HC752_0 := aM hl752_0
               clear hi752_0 hl752_0
               replace p752 := eq_true p752
               replace q752 := eq_true q752
               refine start_ (n := 13) (S := fun w' => w'.cell? ⟨gb746, 0, none⟩ = some (.int .i64 a0_0) ∧ w'.cell? ⟨gb746, 1, none⟩ = some (.slice (some ad751) l0_1.length c0_1) ∧ w'.cell? (ad751.add ((x4_3).toNat * 4)) = some (.slice A751_0 ((rd_T29 l0_1 x4_3).f0).length c751_0) ∧ w'.cell? ⟨(ad751.add ((x4_3).toNat * 4)).block, (ad751.add ((x4_3).toNat * 4)).off + 1, none⟩ = some (.int .i64 ((rd_T29 l0_1 x4_3).f1)) ∧ w'.cell? ⟨(ad751.add ((x4_3).toNat * 4)).block, (ad751.add ((x4_3).toNat * 4)).off + 2, none⟩ = some (.int .i64 ((rd_T29 l0_1 x4_3).f2)) ∧ w'.cell? ⟨(ad751.add ((x4_3).toNat * 4)).block, (ad751.add ((x4_3).toNat * 4)).off + 3, none⟩ = some (.string ((rd_T29 l0_1 x4_3).f3)) ∧ w'.cell? (ad751.add ((x3_1).toNat * 4)) = some (.slice A752_0 ((rd_T29 l0_1 x3_1).f0).length c752_0) ∧ w'.cell? ⟨(ad751.add ((x3_1).toNat * 4)).block, (ad751.add ((x3_1).toNat * 4)).off + 1, none⟩ = some (.int .i64 ((rd_T29 l0_1 x3_1).f1)) ∧ w'.cell? ⟨(ad751.add ((x3_1).toNat * 4)).block, (ad751.add ((x3_1).toNat * 4)).off + 2, none⟩ = some (.int .i64 ((rd_T29 l0_1 x3_1).f2)) ∧ w'.cell? ⟨(ad751.add ((x3_1).toNat * 4)).block, (ad751.add ((x3_1).toNat * 4)).off + 3, none⟩ = some (.string ((rd_T29 l0_1 x3_1).f3))) (ds := []) (bz 13 0) (by kernel_rfl) rfl (by kernel_rfl) ⟨(blk_cell BK746.out 0).trans rfl, (blk_cell BK746.out 1).trans rfl, (cB HB hw751_0), (cB HB hw751_1), (cB HB hw751_2), (cB HB hw751_3), (cB HB hw752_0), (cB HB hw752_1), (cB HB hw752_2), (cB HB hw752_3)⟩ (fun hHeld => ?_); refine with_tabW spec_ChainOk.tab9 spec_ChainOk.bits9 (fun HT_ HW_ => ?_)
               generalize wr.drew = w23 at BK746 HB HR751_0 HR752_0 hx751_0 hx751_1 hx751_2 hx751_3 hx752_0 hx752_1 hx752_2 hx752_3 hHeld ⊢
               refine (pu 0 (some 36) 1 ?_ ?_ HT_ ?_ ?_ ?_ (pu 2 (some 38) 5 ?_ ?_ HT_ ?_ ?_ ?_ (pu 6 (some 42) 69 ?_ ?_ HT_ ?_ ?_ ?_ (pu 8 (some 44) 325 ?_ ?_ HT_ ?_ ?_ ?_ (tk 1 (some 37) 327 ?_ ?_ HT_ HW_ hHeld ?_ ?_ ?_ (pu 3 (some 39) 335 ?_ ?_ HT_ ?_ ?_ ?_ (pu 4 (some 40) 351 ?_ ?_ HT_ ?_ ?_ ?_ (tk 5 (some 41) 383 ?_ ?_ HT_ HW_ hHeld ?_ ?_ ?_ (tk 7 (some 43) 511 ?_ ?_ HT_ HW_ hHeld ?_ ?_ ?_ (pu 9 (some 45) 1023 ?_ ?_ HT_ ?_ ?_ ?_ (pu 10 (some 46) 2047 ?_ ?_ HT_ ?_ ?_ ?_ (tk 11 (some 47) 4095 ?_ ?_ HT_ HW_ hHeld ?_ ?_ ?_ ?_))))))))))))
               all_goals first | (rintro w' ⟨s0, s1, s2, s3, s4, s5, s6, s7, s8, s9⟩; go_simp; with_reducible rfl) | (intro w'; go_simp; with_reducible rfl) | (simp only [u6_]; rfl) | rfl | skip
               refine one_ (i := 12) (N := some 48) (bz 13 8191) rfl rfl (one_of HT_.out (by kernel_rfl)) (by decide) (fun K hK => ?_)
               refine goes_ Try.func43 (by kernel_rfl) rfl #[.slice A751_0 ((rd_T29 l0_1 x4_3).f0).length c751_0, .slice A752_0 ((rd_T29 l0_1 x3_1).f0).length c752_0] (by rfl) rfl rfl mp ?_
               with_reducible refine (spec_SameSet.calls k3 _ _ ((rd_T29 l0_1 x4_3).f0) _ _ ((rd_T29 l0_1 x3_1).f0) true _ ?side1 ?side2 ?side3 ?side4 A21.out).mono ?_
               (case side1 => exact cA (Kd.C_below HR751_0.out HB.out))
               (case side2 => exact HC751_0.out)
               (case side3 => exact cA (Kd.C_below HR752_0.out HB.out))
               (case side4 => exact HC752_0.out)
               rintro e w' ⟨rfl, ⟨nd, rfl⟩⟩
               refine ⟨_, rfl, ?_⟩
               refine hK.out _ _ ⟨(blk_cell BK746.out 0).trans rfl, (blk_cell BK746.out 1).trans rfl, (cB HB hw751_0), (cB HB hw751_1), (cB HB hw751_2), (cB HB hw751_3), (cB HB hw752_0), (cB HB hw752_1), (cB HB hw752_2), (cB HB hw752_3)⟩ (fun hHeld => ?_)
               clear hK K
               refine norm_ (a' := ?_) ?_ ?_
               rotate_left
               ·show Act.put _ (some 48) _ = _
                simp only [u6_]
                rfl
               refine done_ (done_of HT_.out (by kernel_rfl)) ?_
               try go_wp2
               go_ret
               exact ⟨er, (bw HB)⟩
              ·replace c22 := Bool.eq_false_iff.mpr c22
               subst c22
               have H1 : (spec_ChainOk.l1 k3 x3_1 (wrap64 (x4_3 + 1)) a0_0 l0_1) = some r := by rw [if_neg (show ¬ (false = true) by decide)] at H; exact H
               clear H
               have H := H1
               clear H1
               have H' := aM H
               clear H
               try go_wp2
               replace BK746 := aM (blk_drew BK746.out)
               replace HB := aM (below_drew1 HB.out)
               have p751 : 0 ≤ (x4_3 : Int) := of_decide_eq_true as_
               have q751 : x4_3 < (l0_1.length : Int) := of_decide_eq_true as_
               obtain ⟨ad751, A751_0, c751_0, e751, hx751_0, hx751_1, hx751_2, hx751_3, hl751_0, hi751_0⟩ := at_T29 HR0_1.out x4_3 p751 q751
               have hw751_3 := hx751_3
               have hw751_2 := hx751_2
               have hw751_1 := hx751_1
               have hw751_0 := hx751_0
               cases e751
               replace hx751_0 := cb HB hx751_0
               replace hx751_1 := cb HB hx751_1
               replace hx751_2 := cb HB hx751_2
               replace hx751_3 := cb HB hx751_3
               have HR751_0 := aM hi751_0
               have HC751_0 := aM hl751_0
               clear hi751_0 hl751_0
               replace p751 := eq_true p751
               replace q751 := eq_true q751
               have p752 : 0 ≤ (x3_1 : Int) := of_decide_eq_true as_
               have q752 : x3_1 < (l0_1.length : Int) := of_decide_eq_true as_
               obtain ⟨ad752, A752_0, c752_0, e752, hx752_0, hx752_1, hx752_2, hx752_3, hl752_0, hi752_0⟩ := at_T29 HR0_1.out x3_1 p752 q752
               have hw752_3 := hx752_3
               have hw752_2 := hx752_2
               have hw752_1 := hx752_1
               have hw752_0 := hx752_0
               obtain rfl : ad751 = ad752 := (by injection e752)
               replace hx752_0 := cb HB hx752_0
               replace hx752_1 := cb HB hx752_1
               replace hx752_2 := cb HB hx752_2
               replace hx752_3 := cb HB hx752_3
               have HR752_0 := aM hi752_0
               have HC752_0 := aM hl752_0
               clear hi752_0 hl752_0
               replace p752 := eq_true p752
               replace q752 := eq_true q752
               refine start_ (n := 13) (S := fun w' => w'.cell? ⟨gb746, 0, none⟩ = some (.int .i64 a0_0) ∧ w'.cell? ⟨gb746, 1, none⟩ = some (.slice (some ad751) l0_1.length c0_1) ∧ w'.cell? (ad751.add ((x4_3).toNat * 4)) = some (.slice A751_0 ((rd_T29 l0_1 x4_3).f0).length c751_0) ∧ w'.cell? ⟨(ad751.add ((x4_3).toNat * 4)).block, (ad751.add ((x4_3).toNat * 4)).off + 1, none⟩ = some (.int .i64 ((rd_T29 l0_1 x4_3).f1)) ∧ w'.cell? ⟨(ad751.add ((x4_3).toNat * 4)).block, (ad751.add ((x4_3).toNat * 4)).off + 2, none⟩ = some (.int .i64 ((rd_T29 l0_1 x4_3).f2)) ∧ w'.cell? ⟨(ad751.add ((x4_3).toNat * 4)).block, (ad751.add ((x4_3).toNat * 4)).off + 3, none⟩ = some (.string ((rd_T29 l0_1 x4_3).f3)) ∧ w'.cell? (ad751.add ((x3_1).toNat * 4)) = some (.slice A752_0 ((rd_T29 l0_1 x3_1).f0).length c752_0) ∧ w'.cell? ⟨(ad751.add ((x3_1).toNat * 4)).block, (ad751.add ((x3_1).toNat * 4)).off + 1, none⟩ = some (.int .i64 ((rd_T29 l0_1 x3_1).f1)) ∧ w'.cell? ⟨(ad751.add ((x3_1).toNat * 4)).block, (ad751.add ((x3_1).toNat * 4)).off + 2, none⟩ = some (.int .i64 ((rd_T29 l0_1 x3_1).f2)) ∧ w'.cell? ⟨(ad751.add ((x3_1).toNat * 4)).block, (ad751.add ((x3_1).toNat * 4)).off + 3, none⟩ = some (.string ((rd_T29 l0_1 x3_1).f3))) (ds := []) (bz 13 0) (by kernel_rfl) rfl (by kernel_rfl) ⟨(blk_cell BK746.out 0).trans rfl, (blk_cell BK746.out 1).trans rfl, (cB HB hw751_0), (cB HB hw751_1), (cB HB hw751_2), (cB HB hw751_3), (cB HB hw752_0), (cB HB hw752_1), (cB HB hw752_2), (cB HB hw752_3)⟩ (fun hHeld => ?_); refine with_tabW spec_ChainOk.tab9 spec_ChainOk.bits9 (fun HT_ HW_ => ?_)
               generalize wr.drew = w24 at BK746 HB HR751_0 HR752_0 hx751_0 hx751_1 hx751_2 hx751_3 hx752_0 hx752_1 hx752_2 hx752_3 hHeld ⊢
               refine (pu 0 (some 36) 1 ?_ ?_ HT_ ?_ ?_ ?_ (pu 2 (some 38) 5 ?_ ?_ HT_ ?_ ?_ ?_ (pu 6 (some 42) 69 ?_ ?_ HT_ ?_ ?_ ?_ (pu 8 (some 44) 325 ?_ ?_ HT_ ?_ ?_ ?_ (tk 1 (some 37) 327 ?_ ?_ HT_ HW_ hHeld ?_ ?_ ?_ (pu 3 (some 39) 335 ?_ ?_ HT_ ?_ ?_ ?_ (pu 4 (some 40) 351 ?_ ?_ HT_ ?_ ?_ ?_ (tk 5 (some 41) 383 ?_ ?_ HT_ HW_ hHeld ?_ ?_ ?_ (tk 7 (some 43) 511 ?_ ?_ HT_ HW_ hHeld ?_ ?_ ?_ (pu 9 (some 45) 1023 ?_ ?_ HT_ ?_ ?_ ?_ (pu 10 (some 46) 2047 ?_ ?_ HT_ ?_ ?_ ?_ (tk 11 (some 47) 4095 ?_ ?_ HT_ HW_ hHeld ?_ ?_ ?_ ?_))))))))))))
               all_goals first | (rintro w' ⟨s0, s1, s2, s3, s4, s5, s6, s7, s8, s9⟩; go_simp; with_reducible rfl) | (intro w'; go_simp; with_reducible rfl) | (simp only [u6_]; rfl) | rfl | skip
               refine one_ (i := 12) (N := some 48) (bz 13 8191) rfl rfl (one_of HT_.out (by kernel_rfl)) (by decide) (fun K hK => ?_)
               refine goes_ Try.func43 (by kernel_rfl) rfl #[.slice A751_0 ((rd_T29 l0_1 x4_3).f0).length c751_0, .slice A752_0 ((rd_T29 l0_1 x3_1).f0).length c752_0] (by rfl) rfl rfl mp ?_
               with_reducible refine (spec_SameSet.calls k3 _ _ ((rd_T29 l0_1 x4_3).f0) _ _ ((rd_T29 l0_1 x3_1).f0) false _ ?side1 ?side2 ?side3 ?side4 A21.out).mono ?_
               (case side1 => exact cA (Kd.C_below HR751_0.out HB.out))
               (case side2 => exact HC751_0.out)
               (case side3 => exact cA (Kd.C_below HR752_0.out HB.out))
               (case side4 => exact HC752_0.out)
               rintro e w' ⟨rfl, ⟨nd, rfl⟩⟩
               refine ⟨_, rfl, ?_⟩
               refine hK.out _ _ ⟨(blk_cell BK746.out 0).trans rfl, (blk_cell BK746.out 1).trans rfl, (cB HB hw751_0), (cB HB hw751_1), (cB HB hw751_2), (cB HB hw751_3), (cB HB hw752_0), (cB HB hw752_1), (cB HB hw752_2), (cB HB hw752_3)⟩ (fun hHeld => ?_)
               clear hK K
               refine norm_ (a' := ?_) ?_ ?_
               rotate_left
               ·show Act.put _ (some 48) _ = _
                simp only [u6_]
                rfl
               refine done_ (done_of HT_.out (by kernel_rfl)) ?_
               try go_wp2
               go_roundg k3
               case measure => have := HK1.out; have := HJ3.out; have := HK3.out; omega
               case rel => exact ⟨(wrap64 (x4_3 + 1)), rs_, H', ⟨by have := HK1.out; have := HJ3.out; have := HK3.out; omega⟩, ⟨by exact aB BK746⟩, ⟨(bw HB)⟩⟩
             ·rw [if_neg c20] at H
              exact absurd H (by simp)
            ·rw [if_neg c19] at H
             exact absurd H (by simp)
           ·rw [if_neg c18] at H
            exact absurd H (by simp)
          ·rw [if_neg c17] at H
           exact absurd H (by simp)
         ·rw [if_neg c16] at H; have c16b0 : decide (x4_3 < x3_1) = false := decide_eq_false c16; clear c16
          have H' := aM H
          clear H
          go_wp2
          go_roundg k3
          case measure => have := HK1.out; have := HJ3.out; have := HK3.out; omega
          case rel => exact ⟨(wrap64 (x3_1 + 1)), rs_, H', ⟨by have := HK1.out; have := HJ3.out; have := HK3.out; omega⟩, ⟨by exact aB BK746⟩, ⟨(bw HB)⟩⟩
   ·rw [if_neg c3] at H; have c3b0 : decide (x3_1 < (l0_1.length : Int)) = false := decide_eq_false c3; clear c3
    obtain rfl := Option.some.inj H
    obtain ⟨hcz25_0, hcz25_1⟩ := zc2 BK746; have hfz25_0 := zf BK746
    go_wp2
    go_ret
    exact ⟨er, (bw HB)⟩

end Go.Proofs.Ytdhignbneeapiaa.PFnChains
