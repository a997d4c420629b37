/- What the Go functions that FnChains reaches compute, as Lean functions, and that the machine's calls do so; no conditions. -/
import Derived.Test.YtdhignbneeapiaaPFnChainsx0
import Derived.Test.YtdhignbneeapiaaPFnChainsx4
import Derived.Test.YtdhignbneeapiaaPFnChainsx6
import Derived.Test.YtdhignbneeapiaaPFnChainsx16
namespace Go.Proofs.Ytdhignbneeapiaa.PFnChains
open Go.Proofs.Ytdhignbneeapiaa
open Go.RowKit Go.Proofs.YtdhignbneeapiaaW.PrintWords Go.Proofs.YtdhignbneeapiaaW.PrintLast Go.Proofs.YtdhignbneeapiaaW.PrintMore
attribute [local go_sem] max2_int min2_int max_two min_two max_three min_three max_four min_four   -- for this text's walks alone
set_option linter.unusedVariables false
set_option linter.unusedSimpArgs false
set_option maxHeartbeats 8000000
set_option maxRecDepth 100000

/-! ### impl_ChainOk: function 15 -/
def impl_ChainOk.l0 : Nat → List (S29) → Int → Int → Int → List (S29) → Option (Bool)
 | 0, _, _, _, _, _ => none
 | k + 1, x6, x7, x8, x736000, x736001 => if x8 < x7 then (if 0 ≤ x8 then (if x8 < (x6.length : Int) then ((impl_AlarmOk.f k ((rd_T29 x6 x8).f0) ((rd_T29 x6 x8).f1) ((rd_T29 x6 x8).f2) ((rd_T29 x6 x8).f3)).bind fun t739 => (if t739 = true then ((impl_Finger.f k ((rd_T29 x6 x8).f0)).bind fun t740 => (if t740 = x736000 then (impl_ChainOk.l0 k x6 x7 (wrap64 (x8 + 1)) x736000 x736001) else (some false))) else (some false))) else (none)) else (none)) else (if (x736001.length : Int) > 0 then ((impl_labelsApart.f k x736001).bind fun t736 => (some t736)) else (some false))
def impl_ChainOk.f (k : Nat) (a0_0 : Int) (l0_1 : List (S29)) : Option (Bool) := impl_ChainOk.l0 k l0_1 (l0_1.length : Int) 0 a0_0 l0_1
def impl_ChainOk.T4 : Bool × List (List Nat × List Nat) := (true, [([], []), ([0], [0]), ([1], [1]), ([2, 1], [2]), ([3], [3]), ([4, 3], [3, 4]), ([5, 3, 3], [3, 5]), ([3], [3]), ([7, 3], [3, 7]), ([6, 8, 3], [3, 6, 8]), ([3, 9], [3, 9])])
def impl_ChainOk.B4 : List Nat := [0, 1, 3, 7, 15, 31, 63, 15, 143, 511, 1023]
theorem impl_ChainOk.tab4 : rtab .any (opsOf Try.f15 4) = impl_ChainOk.T4 := by kernel_rfl
theorem impl_ChainOk.bits4 : waitsOk impl_ChainOk.T4.2 impl_ChainOk.B4 = true := by kernel_rfl
theorem impl_ChainOk.calls (k : Nat) (a0_0 : Int) (A0_1 : Option Addr) (c0_1 : Nat) (l0_1 : List (S29)) (r : Bool) (w : World) (hr0_1 : Kd.C k29 w A0_1 l0_1.length l0_1) (hc0_1 : l0_1.length ≤ c0_1) (h : impl_ChainOk.f k a0_0 l0_1 = some r) :
  Calls Try.prog 15 #[.agg #[.int .i64 a0_0, .slice A0_1 l0_1.length c0_1]] w fun e w' => e = .returned (.bool r) ∧ Below w.heap.size w w' := by
 have hu26 := Try.underlying26
 have hu29 := Try.underlying29
 have HR0_1 := aM hr0_1
 have HC0_1 := aM hc0_1
 clear hr0_1 hc0_1
 have HB := aM (Below.refl w.heap.size w)
 have H : (impl_ChainOk.l0 k l0_1 (l0_1.length : Int) 0 a0_0 l0_1) = some r := h
 clear h
 have H' := aM H
 clear H
 go_enter Try.func15, Try.ntmps15
 go_wp2_with (first | (refine be_ 1 #[.int .i64 a0_0, .slice A0_1 l0_1.length c0_1] 26 ?_; intro gb735 hg w2 hbox hb; have BK735 := aM (hbox); have GW735 := gw hg (bw HB); have GE735 := gw hg (bw HB); replace HB := aM (below_step (bw HB) hb); clear hb hbox hg; obtain ⟨hcz3_0, hcz3_1⟩ := zc2 BK735; have hfz3_0 := zf BK735))
 go_loopg [8] k (fun kq v8 w' => ∃ (x8_1 : Int), v8 = .int .i64 x8_1 ∧ Aside0 (impl_ChainOk.l0 kq l0_1 (l0_1.length : Int) x8_1 a0_0 l0_1 = some r) ∧ Aside0 (kq ≤ k) ∧ Aside0 (w'.heap[gb735]? = some (.cells #[.int .i64 a0_0, (.slice A0_1 l0_1.length c0_1)] 26 (0, 0))) ∧ Aside0 (Below w.heap.size w w'))
 case atStart => exact ⟨(0), rs_, H', ⟨Nat.le_refl _⟩, ⟨by exact aB BK735⟩, ⟨(bw HB)⟩⟩
 case round =>
  clear H'
  try clear c1
  try clear p2
  try clear hcz3_0
  try clear hcz3_1
  try clear hfz3_0
  try clear hfz3_1
  obtain ⟨x8_1, rfl, HA, HK1, BK735, HB⟩ := hrel
  cases gk with
  | zero => exact absurd HA.out (by simp [impl_ChainOk.l0])
  | succ k1 =>
   have H := HA.out
   clear HA
   simp only [impl_ChainOk.l0] at H
   by_cases c4 : x8_1 < (l0_1.length : Int)
   ·rw [if_pos c4] at H; have c4b0 : decide (x8_1 < (l0_1.length : Int)) = true := decide_eq_true c4; clear c4
    by_cases c5 : 0 ≤ x8_1
    ·rw [if_pos c5] at H; have c5b0 : decide (0 ≤ x8_1) = true := decide_eq_true c5; clear c5
     by_cases c6 : x8_1 < (l0_1.length : Int)
     ·rw [if_pos c6] at H; have c6b0 : decide (x8_1 < (l0_1.length : Int)) = true := decide_eq_true c6; clear c6; replace H := bs_ H; obtain ⟨t739, A70, H⟩ := H; try dsimp only at H
      have A7 := aM A70
      clear A70
      by_cases c8 : t739 = true
      ·subst c8
       have H1 : ((impl_Finger.f k1 ((rd_T29 l0_1 x8_1).f0)).bind fun t740 => (if t740 = a0_0 then (impl_ChainOk.l0 k1 l0_1 (l0_1.length : Int) (wrap64 (x8_1 + 1)) a0_0 l0_1) else (some false))) = some r := by rw [if_pos rfl] at H; exact H
       clear H
       have H := H1
       clear H1; replace H := bs_ H; obtain ⟨t740, A90, H⟩ := H; try dsimp only at H
       have A9 := aM A90
       clear A90
       by_cases c10 : t740 = a0_0
       ·rw [if_pos c10] at H
        have c10b0 : (t740 == a0_0) = true := beq_iff_eq.mpr c10
        have c10b1 : (t740 != a0_0) = false := bne_eq_false_iff_eq.mpr c10
        clear c10
        have H' := aM H
        clear H
        have p737 : 0 ≤ (x8_1 : Int) := of_decide_eq_true as_
        have q737 : x8_1 < (l0_1.length : Int) := of_decide_eq_true as_
        obtain ⟨ad737, A737_0, c737_0, e737, hx737_0, hx737_1, hx737_2, hx737_3, hl737_0, hi737_0⟩ := at_T29 HR0_1.out x8_1 p737 q737
        cases e737
        replace hx737_0 := cb HB hx737_0
        replace hx737_1 := cb HB hx737_1
        replace hx737_2 := cb HB hx737_2
        replace hx737_3 := cb HB hx737_3
        have HR737_0 := aM hi737_0
        have HC737_0 := aM hl737_0
        clear hi737_0 hl737_0
        replace p737 := eq_true p737
        replace q737 := eq_true q737
        try go_wp2_with (first | (refine be_ 4 #[.slice none 0 0, .int .i64 0, .int .i64 0, .string (⟨#[]⟩ : ByteArray)] 29 ?_; intro gb738 hg w11 hbox hb; have BK738 := aM (hbox); have GW738 := gw hg (bw HB); have GE738 := gw hg (bw HB); replace HB := aM (below_step (bw HB) hb); have NB735_738 := nb1 hg BK735; have NB738_735 := nb2 hg BK735; replace BK735 := bb BK735 hb; clear hb hbox hg; have hnb12 := NB738_735.out; have hnc12 := NB735_738.out; obtain ⟨hcz13_0, hcz13_1, hcz13_2, hcz13_3⟩ := zc4 BK738; have hfz13_0 := zf BK738))
        have n0_ : Aside0 (((((w11.setCell ⟨gb738, 0, none⟩ (.slice A737_0 ((rd_T29 l0_1 x8_1).f0).length c737_0)).setCell ⟨gb738, 1, none⟩ (.int .i64 ((rd_T29 l0_1 x8_1).f1))).setCell ⟨gb738, 2, none⟩ (.int .i64 ((rd_T29 l0_1 x8_1).f2))).setCell ⟨gb738, 3, none⟩ (.string ((rd_T29 l0_1 x8_1).f3))).heap[gb735]? = some (.cells #[.int .i64 a0_0, .slice (some ad737) l0_1.length c0_1] 26 (0, 0))) := ⟨by refine blk_far ?_ NB735_738.out _; refine blk_far ?_ NB735_738.out _; refine blk_far ?_ NB735_738.out _; refine blk_far ?_ NB735_738.out _; exact aB BK735⟩
        have n1_ : Aside0 (((((w11.setCell ⟨gb738, 0, none⟩ (.slice A737_0 ((rd_T29 l0_1 x8_1).f0).length c737_0)).setCell ⟨gb738, 1, none⟩ (.int .i64 ((rd_T29 l0_1 x8_1).f1))).setCell ⟨gb738, 2, none⟩ (.int .i64 ((rd_T29 l0_1 x8_1).f2))).setCell ⟨gb738, 3, none⟩ (.string ((rd_T29 l0_1 x8_1).f3))).heap[gb738]? = some (.cells #[.slice A737_0 ((rd_T29 l0_1 x8_1).f0).length c737_0, .int .i64 ((rd_T29 l0_1 x8_1).f1), .int .i64 ((rd_T29 l0_1 x8_1).f2), .string ((rd_T29 l0_1 x8_1).f3)] 29 (0, 0))) := ⟨by refine blk_put (cs := #[.slice A737_0 ((rd_T29 l0_1 x8_1).f0).length c737_0, .int .i64 ((rd_T29 l0_1 x8_1).f1), .int .i64 ((rd_T29 l0_1 x8_1).f2), .string (⟨#[]⟩ : ByteArray)]) ?_ 3 _ rfl; refine blk_put (cs := #[.slice A737_0 ((rd_T29 l0_1 x8_1).f0).length c737_0, .int .i64 ((rd_T29 l0_1 x8_1).f1), .int .i64 0, .string (⟨#[]⟩ : ByteArray)]) ?_ 2 _ rfl; refine blk_put (cs := #[.slice A737_0 ((rd_T29 l0_1 x8_1).f0).length c737_0, .int .i64 0, .int .i64 0, .string (⟨#[]⟩ : ByteArray)]) ?_ 1 _ rfl; refine blk_put (cs := #[.slice none 0 0, .int .i64 0, .int .i64 0, .string (⟨#[]⟩ : ByteArray)]) ?_ 0 _ rfl; exact aB BK738⟩
        have n2_ : Aside0 (Below w.heap.size w ((((w11.setCell ⟨gb738, 0, none⟩ (.slice A737_0 ((rd_T29 l0_1 x8_1).f0).length c737_0)).setCell ⟨gb738, 1, none⟩ (.int .i64 ((rd_T29 l0_1 x8_1).f1))).setCell ⟨gb738, 2, none⟩ (.int .i64 ((rd_T29 l0_1 x8_1).f2))).setCell ⟨gb738, 3, none⟩ (.string ((rd_T29 l0_1 x8_1).f3)))) := ⟨(bw HB)⟩
        (try clear BK735)
        (try clear BK738)
        (try clear HB)
        generalize ((((w11.setCell ⟨gb738, 0, none⟩ (.slice A737_0 ((rd_T29 l0_1 x8_1).f0).length c737_0)).setCell ⟨gb738, 1, none⟩ (.int .i64 ((rd_T29 l0_1 x8_1).f1))).setCell ⟨gb738, 2, none⟩ (.int .i64 ((rd_T29 l0_1 x8_1).f2))).setCell ⟨gb738, 3, none⟩ (.string ((rd_T29 l0_1 x8_1).f3))) = w14 at n0_ n1_ n2_ ⊢
        have BK735 := n0_; have BK738 := n1_; have HB := n2_; clear n0_ n1_ n2_
        replace BK735 := aM (blk_drew BK735.out)
        replace BK738 := aM (blk_drew BK738.out)
        replace HB := aM (below_drew1 HB.out)
        refine start_ (n := 11) (S := fun w' => w'.cell? ⟨gb738, 0, none⟩ = some (.slice A737_0 ((rd_T29 l0_1 x8_1).f0).length c737_0) ∧ w'.cell? ⟨gb738, 1, none⟩ = some (.int .i64 ((rd_T29 l0_1 x8_1).f1)) ∧ w'.cell? ⟨gb738, 2, none⟩ = some (.int .i64 ((rd_T29 l0_1 x8_1).f2)) ∧ w'.cell? ⟨gb738, 3, none⟩ = some (.string ((rd_T29 l0_1 x8_1).f3)) ∧ w'.cell? ⟨gb735, 0, none⟩ = some (.int .i64 a0_0) ∧ w'.cell? ⟨gb735, 1, none⟩ = some (.slice (some ad737) l0_1.length c0_1)) (ds := []) (bz 11 0) (by kernel_rfl) rfl (by kernel_rfl) ⟨(blk_cell BK738.out 0).trans rfl, (blk_cell BK738.out 1).trans rfl, (blk_cell BK738.out 2).trans rfl, (blk_cell BK738.out 3).trans rfl, (blk_cell BK735.out 0).trans rfl, (blk_cell BK735.out 1).trans rfl⟩ (fun hHeld => ?_); refine with_tabW impl_ChainOk.tab4 impl_ChainOk.bits4 (fun HT_ HW_ => ?_)
        generalize w14.drew = w15 at BK735 BK738 HB hHeld ⊢
        refine (tk 0 (some 12) 1 ?_ ?_ HT_ HW_ hHeld ?_ ?_ ?_ ?_)
        all_goals first | (rintro w' ⟨s0, s1, s2, s3, s4, s5⟩; go_simp; with_reducible rfl) | (intro w'; go_simp; with_reducible rfl) | (simp only [u6_]; rfl) | rfl | skip
        refine one_ (i := 1) (N := some 13) (bz 11 3) rfl rfl (one_of HT_.out (by kernel_rfl)) (by decide) (fun K hK => ?_)
        refine goes_ Try.func38 (by kernel_rfl) rfl #[.agg #[.slice A737_0 ((rd_T29 l0_1 x8_1).f0).length c737_0, .int .i64 ((rd_T29 l0_1 x8_1).f1), .int .i64 ((rd_T29 l0_1 x8_1).f2), .string ((rd_T29 l0_1 x8_1).f3)]] (by rfl) rfl rfl mp ?_
        with_reducible refine (impl_AlarmOk.calls k1 _ _ ((rd_T29 l0_1 x8_1).f0) ((rd_T29 l0_1 x8_1).f1) ((rd_T29 l0_1 x8_1).f2) ((rd_T29 l0_1 x8_1).f3) true _ ?side1 ?side2 A7.out).mono ?_
        (case side1 => exact cA (Kd.C_below HR737_0.out HB.out))
        (case side2 => exact HC737_0.out)
        rintro e w16 ⟨rfl, hb⟩
        refine ⟨_, rfl, ?_⟩
        replace BK735 := bb BK735 hb
        replace BK738 := bb BK738 hb
        replace HB := aM (below_step (bw HB) hb)
        (try clear hb)
        (try clear hb2)
        (try clear hk)
        (try clear hi)
        refine hK.out _ _ ⟨(blk_cell BK738.out 0).trans rfl, (blk_cell BK738.out 1).trans rfl, (blk_cell BK738.out 2).trans rfl, (blk_cell BK738.out 3).trans rfl, (blk_cell BK735.out 0).trans rfl, (blk_cell BK735.out 1).trans rfl⟩ (fun hHeld => ?_)
        clear hK K
        refine norm_ (a' := ?_) ?_ ?_
        rotate_left
        ·show Act.put _ (some 13) _ = _
         simp only [u6_]
         rfl
        refine (pu 2 (some 14) 7 ?_ ?_ HT_ ?_ ?_ ?_ (pu 3 (some 15) 15 ?_ ?_ HT_ ?_ ?_ ?_ (pu 4 (some 16) 31 ?_ ?_ HT_ ?_ ?_ ?_ (pu 7 (some 19) 159 ?_ ?_ HT_ ?_ ?_ ?_ (tk 5 (some 17) 191 ?_ ?_ HT_ HW_ hHeld ?_ ?_ ?_ (tk 8 (some 20) 447 ?_ ?_ HT_ HW_ hHeld ?_ ?_ ?_ ?_))))))
        all_goals first | (rintro w' ⟨s0, s1, s2, s3, s4, s5⟩; go_simp; with_reducible rfl) | (intro w'; go_simp; with_reducible rfl) | (simp only [u6_]; rfl) | rfl | skip
        refine one_ (i := 6) (N := some 18) (bz 11 511) rfl rfl (one_of HT_.out (by kernel_rfl)) (by decide) (fun K hK => ?_)
        refine goes_ Try.func39 (by kernel_rfl) rfl #[.slice A737_0 ((rd_T29 l0_1 x8_1).f0).length c737_0] (by rfl) rfl rfl mp ?_
        with_reducible refine (impl_Finger.calls k1 _ _ ((rd_T29 l0_1 x8_1).f0) t740 _ ?side1 ?side2 A9.out).mono ?_
        (case side1 => exact cA (Kd.C_below HR737_0.out HB.out))
        (case side2 => exact HC737_0.out)
        rintro e w17 ⟨rfl, hb⟩
        refine ⟨_, rfl, ?_⟩
        replace BK735 := bb BK735 hb
        replace BK738 := bb BK738 hb
        replace HB := aM (below_step (bw HB) hb)
        (try clear hb)
        (try clear hb2)
        (try clear hk)
        (try clear hi)
        refine hK.out _ _ ⟨(blk_cell BK738.out 0).trans rfl, (blk_cell BK738.out 1).trans rfl, (blk_cell BK738.out 2).trans rfl, (blk_cell BK738.out 3).trans rfl, (blk_cell BK735.out 0).trans rfl, (blk_cell BK735.out 1).trans rfl⟩ (fun hHeld => ?_)
        clear hK K
        refine norm_ (a' := ?_) ?_ ?_
        rotate_left
        ·show Act.put _ (some 18) _ = _
         simp only [u6_]
         rfl
        refine (pu 9 (some 21) 1023 ?_ ?_ HT_ ?_ ?_ ?_ (pu 10 (some 22) 2047 ?_ ?_ HT_ ?_ ?_ ?_ ?_))
        all_goals first | (intro w'; go_simp; with_reducible rfl) | (simp only [u6_]; rfl) | rfl | skip
        refine done_ (done_of HT_.out (by kernel_rfl)) ?_
        try go_wp2
        go_roundg k1
        case measure => have := HK1.out; omega
        case rel => exact ⟨(wrap64 (x8_1 + 1)), rs_, H', ⟨by have := HK1.out; omega⟩, ⟨by exact aB BK735⟩, ⟨(bw HB)⟩⟩
       ·rw [if_neg c10] at H
        have c10b0 : (t740 == a0_0) = false := beq_eq_false_iff_ne.mpr c10
        have c10b1 : (t740 != a0_0) = true := bne_iff_ne.mpr c10
        obtain rfl := Option.some.inj H
        have p737 : 0 ≤ (x8_1 : Int) := of_decide_eq_true as_
        have q737 : x8_1 < (l0_1.length : Int) := of_decide_eq_true as_
        obtain ⟨ad737, A737_0, c737_0, e737, hx737_0, hx737_1, hx737_2, hx737_3, hl737_0, hi737_0⟩ := at_T29 HR0_1.out x8_1 p737 q737
        cases e737
        replace hx737_0 := cb HB hx737_0
        replace hx737_1 := cb HB hx737_1
        replace hx737_2 := cb HB hx737_2
        replace hx737_3 := cb HB hx737_3
        have HR737_0 := aM hi737_0
        have HC737_0 := aM hl737_0
        clear hi737_0 hl737_0
        replace p737 := eq_true p737
        replace q737 := eq_true q737
        try go_wp2_with (first | (refine be_ 4 #[.slice none 0 0, .int .i64 0, .int .i64 0, .string (⟨#[]⟩ : ByteArray)] 29 ?_; intro gb738 hg w18 hbox hb; have BK738 := aM (hbox); have GW738 := gw hg (bw HB); have GE738 := gw hg (bw HB); replace HB := aM (below_step (bw HB) hb); have NB735_738 := nb1 hg BK735; have NB738_735 := nb2 hg BK735; replace BK735 := bb BK735 hb; clear hb hbox hg; have hnb19 := NB738_735.out; have hnc19 := NB735_738.out; obtain ⟨hcz20_0, hcz20_1, hcz20_2, hcz20_3⟩ := zc4 BK738; have hfz20_0 := zf BK738))
        have n0_ : Aside0 (((((w18.setCell ⟨gb738, 0, none⟩ (.slice A737_0 ((rd_T29 l0_1 x8_1).f0).length c737_0)).setCell ⟨gb738, 1, none⟩ (.int .i64 ((rd_T29 l0_1 x8_1).f1))).setCell ⟨gb738, 2, none⟩ (.int .i64 ((rd_T29 l0_1 x8_1).f2))).setCell ⟨gb738, 3, none⟩ (.string ((rd_T29 l0_1 x8_1).f3))).heap[gb735]? = some (.cells #[.int .i64 a0_0, .slice (some ad737) l0_1.length c0_1] 26 (0, 0))) := ⟨by refine blk_far ?_ NB735_738.out _; refine blk_far ?_ NB735_738.out _; refine blk_far ?_ NB735_738.out _; refine blk_far ?_ NB735_738.out _; exact aB BK735⟩
        have n1_ : Aside0 (((((w18.setCell ⟨gb738, 0, none⟩ (.slice A737_0 ((rd_T29 l0_1 x8_1).f0).length c737_0)).setCell ⟨gb738, 1, none⟩ (.int .i64 ((rd_T29 l0_1 x8_1).f1))).setCell ⟨gb738, 2, none⟩ (.int .i64 ((rd_T29 l0_1 x8_1).f2))).setCell ⟨gb738, 3, none⟩ (.string ((rd_T29 l0_1 x8_1).f3))).heap[gb738]? = some (.cells #[.slice A737_0 ((rd_T29 l0_1 x8_1).f0).length c737_0, .int .i64 ((rd_T29 l0_1 x8_1).f1), .int .i64 ((rd_T29 l0_1 x8_1).f2), .string ((rd_T29 l0_1 x8_1).f3)] 29 (0, 0))) := ⟨by refine blk_put (cs := #[.slice A737_0 ((rd_T29 l0_1 x8_1).f0).length c737_0, .int .i64 ((rd_T29 l0_1 x8_1).f1), .int .i64 ((rd_T29 l0_1 x8_1).f2), .string (⟨#[]⟩ : ByteArray)]) ?_ 3 _ rfl; refine blk_put (cs := #[.slice A737_0 ((rd_T29 l0_1 x8_1).f0).length c737_0, .int .i64 ((rd_T29 l0_1 x8_1).f1), .int .i64 0, .string (⟨#[]⟩ : ByteArray)]) ?_ 2 _ rfl; refine blk_put (cs := #[.slice A737_0 ((rd_T29 l0_1 x8_1).f0).length c737_0, .int .i64 0, .int .i64 0, .string (⟨#[]⟩ : ByteArray)]) ?_ 1 _ rfl; refine blk_put (cs := #[.slice none 0 0, .int .i64 0, .int .i64 0, .string (⟨#[]⟩ : ByteArray)]) ?_ 0 _ rfl; exact aB BK738⟩
        have n2_ : Aside0 (Below w.heap.size w ((((w18.setCell ⟨gb738, 0, none⟩ (.slice A737_0 ((rd_T29 l0_1 x8_1).f0).length c737_0)).setCell ⟨gb738, 1, none⟩ (.int .i64 ((rd_T29 l0_1 x8_1).f1))).setCell ⟨gb738, 2, none⟩ (.int .i64 ((rd_T29 l0_1 x8_1).f2))).setCell ⟨gb738, 3, none⟩ (.string ((rd_T29 l0_1 x8_1).f3)))) := ⟨(bw HB)⟩
        (try clear BK735)
        (try clear BK738)
        (try clear HB)
        generalize ((((w18.setCell ⟨gb738, 0, none⟩ (.slice A737_0 ((rd_T29 l0_1 x8_1).f0).length c737_0)).setCell ⟨gb738, 1, none⟩ (.int .i64 ((rd_T29 l0_1 x8_1).f1))).setCell ⟨gb738, 2, none⟩ (.int .i64 ((rd_T29 l0_1 x8_1).f2))).setCell ⟨gb738, 3, none⟩ (.string ((rd_T29 l0_1 x8_1).f3))) = w21 at n0_ n1_ n2_ ⊢
        have BK735 := n0_; have BK738 := n1_; have HB := n2_; clear n0_ n1_ n2_
        replace BK735 := aM (blk_drew BK735.out)
        replace BK738 := aM (blk_drew BK738.out)
        replace HB := aM (below_drew1 HB.out)
        refine start_ (n := 11) (S := fun w' => w'.cell? ⟨gb738, 0, none⟩ = some (.slice A737_0 ((rd_T29 l0_1 x8_1).f0).length c737_0) ∧ w'.cell? ⟨gb738, 1, none⟩ = some (.int .i64 ((rd_T29 l0_1 x8_1).f1)) ∧ w'.cell? ⟨gb738, 2, none⟩ = some (.int .i64 ((rd_T29 l0_1 x8_1).f2)) ∧ w'.cell? ⟨gb738, 3, none⟩ = some (.string ((rd_T29 l0_1 x8_1).f3)) ∧ w'.cell? ⟨gb735, 0, none⟩ = some (.int .i64 a0_0) ∧ w'.cell? ⟨gb735, 1, none⟩ = some (.slice (some ad737) l0_1.length c0_1)) (ds := []) (bz 11 0) (by kernel_rfl) rfl (by kernel_rfl) ⟨(blk_cell BK738.out 0).trans rfl, (blk_cell BK738.out 1).trans rfl, (blk_cell BK738.out 2).trans rfl, (blk_cell BK738.out 3).trans rfl, (blk_cell BK735.out 0).trans rfl, (blk_cell BK735.out 1).trans rfl⟩ (fun hHeld => ?_); refine with_tabW impl_ChainOk.tab4 impl_ChainOk.bits4 (fun HT_ HW_ => ?_)
        generalize w21.drew = w22 at BK735 BK738 HB hHeld ⊢
        refine (tk 0 (some 12) 1 ?_ ?_ HT_ HW_ hHeld ?_ ?_ ?_ ?_)
        all_goals first | (rintro w' ⟨s0, s1, s2, s3, s4, s5⟩; go_simp; with_reducible rfl) | (intro w'; go_simp; with_reducible rfl) | (simp only [u6_]; rfl) | rfl | skip
        refine one_ (i := 1) (N := some 13) (bz 11 3) rfl rfl (one_of HT_.out (by kernel_rfl)) (by decide) (fun K hK => ?_)
        refine goes_ Try.func38 (by kernel_rfl) rfl #[.agg #[.slice A737_0 ((rd_T29 l0_1 x8_1).f0).length c737_0, .int .i64 ((rd_T29 l0_1 x8_1).f1), .int .i64 ((rd_T29 l0_1 x8_1).f2), .string ((rd_T29 l0_1 x8_1).f3)]] (by rfl) rfl rfl mp ?_
        with_reducible refine (impl_AlarmOk.calls k1 _ _ ((rd_T29 l0_1 x8_1).f0) ((rd_T29 l0_1 x8_1).f1) ((rd_T29 l0_1 x8_1).f2) ((rd_T29 l0_1 x8_1).f3) true _ ?side1 ?side2 A7.out).mono ?_
        (case side1 => exact cA (Kd.C_below HR737_0.out HB.out))
        (case side2 => exact HC737_0.out)
        rintro e w23 ⟨rfl, hb⟩
        refine ⟨_, rfl, ?_⟩
        replace BK735 := bb BK735 hb
        replace BK738 := bb BK738 hb
        replace HB := aM (below_step (bw HB) hb)
        (try clear hb)
        (try clear hb2)
        (try clear hk)
        (try clear hi)
        refine hK.out _ _ ⟨(blk_cell BK738.out 0).trans rfl, (blk_cell BK738.out 1).trans rfl, (blk_cell BK738.out 2).trans rfl, (blk_cell BK738.out 3).trans rfl, (blk_cell BK735.out 0).trans rfl, (blk_cell BK735.out 1).trans rfl⟩ (fun hHeld => ?_)
        clear hK K
        refine norm_ (a' := ?_) ?_ ?_
        rotate_left
        ·show Act.put _ (some 13) _ = _
         simp only [u6_]
         rfl
        refine (pu 2 (some 14) 7 ?_ ?_ HT_ ?_ ?_ ?_ (pu 3 (some 15) 15 ?_ ?_ HT_ ?_ ?_ ?_ (pu 4 (some 16) 31 ?_ ?_ HT_ ?_ ?_ ?_ (pu 7 (some 19) 159 ?_ ?_ HT_ ?_ ?_ ?_ (tk 5 (some 17) 191 ?_ ?_ HT_ HW_ hHeld ?_ ?_ ?_ (tk 8 (some 20) 447 ?_ ?_ HT_ HW_ hHeld ?_ ?_ ?_ ?_))))))
        all_goals first | (rintro w' ⟨s0, s1, s2, s3, s4, s5⟩; go_simp; with_reducible rfl) | (intro w'; go_simp; with_reducible rfl) | (simp only [u6_]; rfl) | rfl | skip
        refine one_ (i := 6) (N := some 18) (bz 11 511) rfl rfl (one_of HT_.out (by kernel_rfl)) (by decide) (fun K hK => ?_)
        refine goes_ Try.func39 (by kernel_rfl) rfl #[.slice A737_0 ((rd_T29 l0_1 x8_1).f0).length c737_0] (by rfl) rfl rfl mp ?_
        with_reducible refine (impl_Finger.calls k1 _ _ ((rd_T29 l0_1 x8_1).f0) t740 _ ?side1 ?side2 A9.out).mono ?_
        (case side1 => exact cA (Kd.C_below HR737_0.out HB.out))
        (case side2 => exact HC737_0.out)
        rintro e w24 ⟨rfl, hb⟩
        refine ⟨_, rfl, ?_⟩
        replace BK735 := bb BK735 hb
        replace BK738 := bb BK738 hb
        replace HB := aM (below_step (bw HB) hb)
        (try clear hb)
        (try clear hb2)
        (try clear hk)
        (try clear hi)
        refine hK.out _ _ ⟨(blk_cell BK738.out 0).trans rfl, (blk_cell BK738.out 1).trans rfl, (blk_cell BK738.out 2).trans rfl, (blk_cell BK738.out 3).trans rfl, (blk_cell BK735.out 0).trans rfl, (blk_cell BK735.out 1).trans rfl⟩ (fun hHeld => ?_)
        clear hK K
        refine norm_ (a' := ?_) ?_ ?_
        rotate_left
        ·show Act.put _ (some 18) _ = _
         simp only [u6_]
         rfl
        refine (pu 9 (some 21) 1023 ?_ ?_ HT_ ?_ ?_ ?_ (pu 10 (some 22) 2047 ?_ ?_ HT_ ?_ ?_ ?_ ?_))
        all_goals first | (intro w'; go_simp; with_reducible rfl) | (simp only [u6_]; rfl) | rfl | skip
        refine done_ (done_of HT_.out (by kernel_rfl)) ?_
        try go_wp2
        go_ret
        exact ⟨er, (bw HB)⟩
      ·replace c8 := Bool.eq_false_iff.mpr c8
       subst c8
       have H1 : (some false) = some r := by rw [if_neg (show ¬ (false = true) by decide)] at H; exact H
       clear H
       have H := H1
       clear H1
       obtain rfl := Option.some.inj H
       have p737 : 0 ≤ (x8_1 : Int) := of_decide_eq_true as_
       have q737 : x8_1 < (l0_1.length : Int) := of_decide_eq_true as_
       obtain ⟨ad737, A737_0, c737_0, e737, hx737_0, hx737_1, hx737_2, hx737_3, hl737_0, hi737_0⟩ := at_T29 HR0_1.out x8_1 p737 q737
       cases e737
       replace hx737_0 := cb HB hx737_0
       replace hx737_1 := cb HB hx737_1
       replace hx737_2 := cb HB hx737_2
       replace hx737_3 := cb HB hx737_3
       have HR737_0 := aM hi737_0
       have HC737_0 := aM hl737_0
       clear hi737_0 hl737_0
       replace p737 := eq_true p737
       replace q737 := eq_true q737
       try go_wp2_with (first | (refine be_ 4 #[.slice none 0 0, .int .i64 0, .int .i64 0, .string (⟨#[]⟩ : ByteArray)] 29 ?_; intro gb738 hg w25 hbox hb; have BK738 := aM (hbox); have GW738 := gw hg (bw HB); have GE738 := gw hg (bw HB); replace HB := aM (below_step (bw HB) hb); have NB735_738 := nb1 hg BK735; have NB738_735 := nb2 hg BK735; replace BK735 := bb BK735 hb; clear hb hbox hg; have hnb26 := NB738_735.out; have hnc26 := NB735_738.out; obtain ⟨hcz27_0, hcz27_1, hcz27_2, hcz27_3⟩ := zc4 BK738; have hfz27_0 := zf BK738))
       have n0_ : Aside0 (((((w25.setCell ⟨gb738, 0, none⟩ (.slice A737_0 ((rd_T29 l0_1 x8_1).f0).length c737_0)).setCell ⟨gb738, 1, none⟩ (.int .i64 ((rd_T29 l0_1 x8_1).f1))).setCell ⟨gb738, 2, none⟩ (.int .i64 ((rd_T29 l0_1 x8_1).f2))).setCell ⟨gb738, 3, none⟩ (.string ((rd_T29 l0_1 x8_1).f3))).heap[gb735]? = some (.cells #[.int .i64 a0_0, .slice (some ad737) l0_1.length c0_1] 26 (0, 0))) := ⟨by refine blk_far ?_ NB735_738.out _; refine blk_far ?_ NB735_738.out _; refine blk_far ?_ NB735_738.out _; refine blk_far ?_ NB735_738.out _; exact aB BK735⟩
       have n1_ : Aside0 (((((w25.setCell ⟨gb738, 0, none⟩ (.slice A737_0 ((rd_T29 l0_1 x8_1).f0).length c737_0)).setCell ⟨gb738, 1, none⟩ (.int .i64 ((rd_T29 l0_1 x8_1).f1))).setCell ⟨gb738, 2, none⟩ (.int .i64 ((rd_T29 l0_1 x8_1).f2))).setCell ⟨gb738, 3, none⟩ (.string ((rd_T29 l0_1 x8_1).f3))).heap[gb738]? = some (.cells #[.slice A737_0 ((rd_T29 l0_1 x8_1).f0).length c737_0, .int .i64 ((rd_T29 l0_1 x8_1).f1), .int .i64 ((rd_T29 l0_1 x8_1).f2), .string ((rd_T29 l0_1 x8_1).f3)] 29 (0, 0))) := ⟨by refine blk_put (cs := #[.slice A737_0 ((rd_T29 l0_1 x8_1).f0).length c737_0, .int .i64 ((rd_T29 l0_1 x8_1).f1), .int .i64 ((rd_T29 l0_1 x8_1).f2), .string (⟨#[]⟩ : ByteArray)]) ?_ 3 _ rfl; refine blk_put (cs := #[.slice A737_0 ((rd_T29 l0_1 x8_1).f0).length c737_0, .int .i64 ((rd_T29 l0_1 x8_1).f1), .int .i64 0, .string (⟨#[]⟩ : ByteArray)]) ?_ 2 _ rfl; refine blk_put (cs := #[.slice A737_0 ((rd_T29 l0_1 x8_1).f0).length c737_0, .int .i64 0, .int .i64 0, .string (⟨#[]⟩ : ByteArray)]) ?_ 1 _ rfl; refine blk_put (cs := #[.slice none 0 0, .int .i64 0, .int .i64 0, .string (⟨#[]⟩ : ByteArray)]) ?_ 0 _ rfl; exact aB BK738⟩
       have n2_ : Aside0 (Below w.heap.size w ((((w25.setCell ⟨gb738, 0, none⟩ (.slice A737_0 ((rd_T29 l0_1 x8_1).f0).length c737_0)).setCell ⟨gb738, 1, none⟩ (.int .i64 ((rd_T29 l0_1 x8_1).f1))).setCell ⟨gb738, 2, none⟩ (.int .i64 ((rd_T29 l0_1 x8_1).f2))).setCell ⟨gb738, 3, none⟩ (.string ((rd_T29 l0_1 x8_1).f3)))) := ⟨(bw HB)⟩
       (try clear BK735)
       (try clear BK738)
       (try clear HB)
       generalize ((((w25.setCell ⟨gb738, 0, none⟩ (.slice A737_0 ((rd_T29 l0_1 x8_1).f0).length c737_0)).setCell ⟨gb738, 1, none⟩ (.int .i64 ((rd_T29 l0_1 x8_1).f1))).setCell ⟨gb738, 2, none⟩ (.int .i64 ((rd_T29 l0_1 x8_1).f2))).setCell ⟨gb738, 3, none⟩ (.string ((rd_T29 l0_1 x8_1).f3))) = w28 at n0_ n1_ n2_ ⊢
       have BK735 := n0_; have BK738 := n1_; have HB := n2_; clear n0_ n1_ n2_
       replace BK735 := aM (blk_drew BK735.out)
       replace BK738 := aM (blk_drew BK738.out)
       replace HB := aM (below_drew1 HB.out)
       refine start_ (n := 11) (S := fun w' => w'.cell? ⟨gb738, 0, none⟩ = some (.slice A737_0 ((rd_T29 l0_1 x8_1).f0).length c737_0) ∧ w'.cell? ⟨gb738, 1, none⟩ = some (.int .i64 ((rd_T29 l0_1 x8_1).f1)) ∧ w'.cell? ⟨gb738, 2, none⟩ = some (.int .i64 ((rd_T29 l0_1 x8_1).f2)) ∧ w'.cell? ⟨gb738, 3, none⟩ = some (.string ((rd_T29 l0_1 x8_1).f3))) (ds := []) (bz 11 0) (by kernel_rfl) rfl (by kernel_rfl) ⟨(blk_cell BK738.out 0).trans rfl, (blk_cell BK738.out 1).trans rfl, (blk_cell BK738.out 2).trans rfl, (blk_cell BK738.out 3).trans rfl⟩ (fun hHeld => ?_); refine with_tabW impl_ChainOk.tab4 impl_ChainOk.bits4 (fun HT_ HW_ => ?_)
       generalize w28.drew = w29 at BK735 BK738 HB hHeld ⊢
       refine (tk 0 (some 12) 1 ?_ ?_ HT_ HW_ hHeld ?_ ?_ ?_ ?_)
       all_goals first | (rintro w' ⟨s0, s1, s2, s3⟩; go_simp; with_reducible rfl) | (intro w'; go_simp; with_reducible rfl) | (simp only [u6_]; rfl) | rfl | skip
       refine one_ (i := 1) (N := some 13) (bz 11 3) rfl rfl (one_of HT_.out (by kernel_rfl)) (by decide) (fun K hK => ?_)
       refine goes_ Try.func38 (by kernel_rfl) rfl #[.agg #[.slice A737_0 ((rd_T29 l0_1 x8_1).f0).length c737_0, .int .i64 ((rd_T29 l0_1 x8_1).f1), .int .i64 ((rd_T29 l0_1 x8_1).f2), .string ((rd_T29 l0_1 x8_1).f3)]] (by rfl) rfl rfl mp ?_
       with_reducible refine (impl_AlarmOk.calls k1 _ _ ((rd_T29 l0_1 x8_1).f0) ((rd_T29 l0_1 x8_1).f1) ((rd_T29 l0_1 x8_1).f2) ((rd_T29 l0_1 x8_1).f3) false _ ?side1 ?side2 A7.out).mono ?_
       (case side1 => exact cA (Kd.C_below HR737_0.out HB.out))
       (case side2 => exact HC737_0.out)
       rintro e w30 ⟨rfl, hb⟩
       refine ⟨_, rfl, ?_⟩
       replace BK735 := bb BK735 hb
       replace BK738 := bb BK738 hb
       replace HB := aM (below_step (bw HB) hb)
       (try clear hb)
       (try clear hb2)
       (try clear hk)
       (try clear hi)
       refine hK.out _ _ ⟨(blk_cell BK738.out 0).trans rfl, (blk_cell BK738.out 1).trans rfl, (blk_cell BK738.out 2).trans rfl, (blk_cell BK738.out 3).trans rfl⟩ (fun hHeld => ?_)
       clear hK K
       refine norm_ (a' := ?_) ?_ ?_
       rotate_left
       ·show Act.put _ (some 13) _ = _
        simp only [u6_]
        rfl
       refine (pu 2 (some 14) 7 ?_ ?_ HT_ ?_ ?_ ?_ (pu 3 (some 15) 15 ?_ ?_ HT_ ?_ ?_ ?_ (po 4 (some 16) 31 ?_ HT_ ?_ ?_ (po 5 (some 17) 63 ?_ HT_ ?_ ?_ (po 6 (some 18) 127 ?_ HT_ ?_ ?_ (po 7 (some 19) 255 ?_ HT_ ?_ ?_ (po 8 (some 20) 511 ?_ HT_ ?_ ?_ (po 9 (some 21) 1023 ?_ HT_ ?_ ?_ (pu 10 (some 22) 2047 ?_ ?_ HT_ ?_ ?_ ?_ ?_)))))))))
       all_goals first | (intro w'; go_simp; with_reducible rfl) | (simp only [u6_]; rfl) | rfl | skip
       refine done_ (done_of HT_.out (by kernel_rfl)) ?_
       try go_wp2
       go_ret
       exact ⟨er, (bw HB)⟩
     ·rw [if_neg c6] at H
      exact absurd H (by simp)
    ·rw [if_neg c5] at H
     exact absurd H (by simp)
   ·rw [if_neg c4] at H; have c4b0 : decide (x8_1 < (l0_1.length : Int)) = false := decide_eq_false c4; clear c4
    by_cases c31 : (l0_1.length : Int) > 0
    ·rw [if_pos c31] at H; have c31b0 : decide (0 < (l0_1.length : Int)) = true := decide_eq_true c31
     have c31b1 : decide (0 < l0_1.length) = true := decide_eq_true (by omega)
     clear c31; replace H := bs_ H; obtain ⟨t736, A320, H⟩ := H; try dsimp only at H
     have A32 := aM A320
     clear A320
     obtain rfl := Option.some.inj H
     obtain ⟨hcz33_0, hcz33_1⟩ := zc2 BK735; have hfz33_0 := zf BK735
     go_wp2_with (first | (go_at_call 40; (with_reducible refine (impl_labelsApart.calls k1 _ _ l0_1 t736 _ ?side1 ?side2 A32.out).mono ?_); (case side1 => exact cA (Kd.C_below HR0_1.out HB.out)); (case side2 => exact HC0_1.out); rintro e w34 ⟨rfl, hb⟩; replace BK735 := bb BK735 hb; replace HB := aM (below_step (bw HB) hb); (try clear hb); (try clear hb2); (try clear hk); (try clear hi)))
     go_ret
     exact ⟨er, (bw HB)⟩
    ·rw [if_neg c31] at H; have c31b0 : decide (0 < (l0_1.length : Int)) = false := decide_eq_false c31
     have c31b1 : decide (0 < l0_1.length) = false := decide_eq_false (by omega)
     clear c31
     obtain rfl := Option.some.inj H
     obtain ⟨hcz35_0, hcz35_1⟩ := zc2 BK735; have hfz35_0 := zf BK735
     go_wp2
     go_ret
     exact ⟨er, (bw HB)⟩

/-! ### spec_AlarmOk: function 41 -/
def spec_AlarmOk.f (k : Nat) (l0_0 : List (S76)) (a0_1 : Int) (a0_2 : Int) (a0_3 : ByteArray) : Option (Bool) := (spec_SetOk.f k l0_0).bind fun t742 => (if t742 = true then (if (l0_0.length : Int) > 0 then ((spec_l1In.f a0_1 0 99999).bind fun t743 => (if t743 = true then ((spec_l1In.f a0_2 a0_1 99999).bind fun t744 => (if t744 = true then ((spec_PlainOk.f k a0_3).bind fun t745 => (some t745)) else (some false))) else (some false))) else (some false)) else (some false))
theorem spec_AlarmOk.calls (k : Nat) (A0_0 : Option Addr) (c0_0 : Nat) (l0_0 : List (S76)) (a0_1 : Int) (a0_2 : Int) (a0_3 : ByteArray) (r : Bool) (w : World) (hr0_0 : Kd.C k76 w A0_0 l0_0.length l0_0) (hc0_0 : l0_0.length ≤ c0_0) (h : spec_AlarmOk.f k l0_0 a0_1 a0_2 a0_3 = some r) :
  Calls Try.prog 41 #[.agg #[.slice A0_0 l0_0.length c0_0, .int .i64 a0_1, .int .i64 a0_2, .string a0_3]] w fun e w' => e = .returned (.bool r) ∧ Below w.heap.size w w' := by
 have hu29 := Try.underlying29
 have HR0_0 := aM hr0_0
 have HC0_0 := aM hc0_0
 clear hr0_0 hc0_0
 have HB := aM (Below.refl w.heap.size w)
 have H : ((spec_SetOk.f k l0_0).bind fun t742 => (if t742 = true then (if (l0_0.length : Int) > 0 then ((spec_l1In.f a0_1 0 99999).bind fun t743 => (if t743 = true then ((spec_l1In.f a0_2 a0_1 99999).bind fun t744 => (if t744 = true then ((spec_PlainOk.f k a0_3).bind fun t745 => (some t745)) else (some false))) else (some false))) else (some false)) else (some false))) = some r := h
 clear h; replace H := bs_ H; obtain ⟨t742, A20, H⟩ := H; try dsimp only at H
 have A2 := aM A20
 clear A20
 by_cases c3 : t742 = true
 ·subst c3
  have H1 : (if (l0_0.length : Int) > 0 then ((spec_l1In.f a0_1 0 99999).bind fun t743 => (if t743 = true then ((spec_l1In.f a0_2 a0_1 99999).bind fun t744 => (if t744 = true then ((spec_PlainOk.f k a0_3).bind fun t745 => (some t745)) else (some false))) else (some false))) else (some false)) = some r := by rw [if_pos rfl] at H; exact H
  clear H
  have H := H1
  clear H1
  by_cases c4 : (l0_0.length : Int) > 0
  ·rw [if_pos c4] at H; have c4b0 : decide (0 < (l0_0.length : Int)) = true := decide_eq_true c4
   have c4b1 : decide (0 < l0_0.length) = true := decide_eq_true (by omega)
   clear c4; replace H := bs_ H; obtain ⟨t743, A50, H⟩ := H; try dsimp only at H
   have A5 := aM A50
   clear A50
   by_cases c6 : t743 = true
   ·subst c6
    have H1 : ((spec_l1In.f a0_2 a0_1 99999).bind fun t744 => (if t744 = true then ((spec_PlainOk.f k a0_3).bind fun t745 => (some t745)) else (some false))) = some r := by rw [if_pos rfl] at H; exact H
    clear H
    have H := H1
    clear H1; replace H := bs_ H; obtain ⟨t744, A70, H⟩ := H; try dsimp only at H
    have A7 := aM A70
    clear A70
    by_cases c8 : t744 = true
    ·subst c8
     have H1 : ((spec_PlainOk.f k a0_3).bind fun t745 => (some t745)) = some r := by rw [if_pos rfl] at H; exact H
     clear H
     have H := H1
     clear H1; replace H := bs_ H; obtain ⟨t745, A90, H⟩ := H; try dsimp only at H
     have A9 := aM A90
     clear A90
     obtain rfl := Option.some.inj H
     go_enter Try.func41, Try.ntmps41
     go_wp2_with (first | ((with_reducible refine gate_dst (N := 1) rfl ?_); (try (refine gate_guard (by rfl) ?_; dsimp only)); refine box_event rfl (N := 1) rfl (cs := #[.slice A0_0 l0_0.length c0_0, .int .i64 a0_1, .int .i64 a0_2, .string a0_3]) (t := 29) gs ?_; intro gb741 hg w10 hbox hb; have BK741 := aM (hbox); have GW741 := gw hg (bw HB); have GE741 := gw hg (bw HB); replace HB := aM (below_step (bw HB) hb); clear hb hbox hg; obtain ⟨hcz11_0, hcz11_1, hcz11_2, hcz11_3⟩ := zc4 BK741; have hfz11_0 := zf BK741) | (refine gl_ (some 5) Try.func63 #[.slice A0_0 l0_0.length c0_0] ?_; (with_reducible refine (spec_SetOk.calls k _ _ l0_0 true _ ?side1 ?side2 A2.out).mono ?_); (case side1 => exact cA (Kd.C_below HR0_0.out HB.out)); (case side2 => exact HC0_0.out); rintro e w12 ⟨rfl, hb⟩; refine ⟨_, rfl, ?_⟩; replace BK741 := bb BK741 hb; replace HB := aM (below_step (bw HB) hb); (try clear hb); (try clear hb2); (try clear hk); (try clear hi); obtain ⟨hcz13_0, hcz13_1, hcz13_2, hcz13_3⟩ := zc4 BK741; have hfz13_0 := zf BK741) | (go_at_call 64; (with_reducible refine (spec_l1In.calls a0_1 0 99999 true _ A5.out).mono ?_); rintro e w' ⟨rfl, ⟨nd, rfl⟩⟩) | (go_at_call 64; (with_reducible refine (spec_l1In.calls a0_2 a0_1 99999 true _ A7.out).mono ?_); rintro e w' ⟨rfl, ⟨nd, rfl⟩⟩) | (go_at_call 65; (with_reducible refine (spec_PlainOk.calls k a0_3 t745 _ A9.out).mono ?_); rintro e w' ⟨rfl, ⟨nd, rfl⟩⟩))
     go_ret
     exact ⟨er, (bw HB)⟩
    ·replace c8 := Bool.eq_false_iff.mpr c8
     subst c8
     have H1 : (some false) = some r := by rw [if_neg (show ¬ (false = true) by decide)] at H; exact H
     clear H
     have H := H1
     clear H1
     obtain rfl := Option.some.inj H
     go_enter Try.func41, Try.ntmps41
     go_wp2_with (first | ((with_reducible refine gate_dst (N := 1) rfl ?_); (try (refine gate_guard (by rfl) ?_; dsimp only)); refine box_event rfl (N := 1) rfl (cs := #[.slice A0_0 l0_0.length c0_0, .int .i64 a0_1, .int .i64 a0_2, .string a0_3]) (t := 29) gs ?_; intro gb741 hg w14 hbox hb; have BK741 := aM (hbox); have GW741 := gw hg (bw HB); have GE741 := gw hg (bw HB); replace HB := aM (below_step (bw HB) hb); clear hb hbox hg; obtain ⟨hcz15_0, hcz15_1, hcz15_2, hcz15_3⟩ := zc4 BK741; have hfz15_0 := zf BK741) | (refine gl_ (some 5) Try.func63 #[.slice A0_0 l0_0.length c0_0] ?_; (with_reducible refine (spec_SetOk.calls k _ _ l0_0 true _ ?side1 ?side2 A2.out).mono ?_); (case side1 => exact cA (Kd.C_below HR0_0.out HB.out)); (case side2 => exact HC0_0.out); rintro e w16 ⟨rfl, hb⟩; refine ⟨_, rfl, ?_⟩; replace BK741 := bb BK741 hb; replace HB := aM (below_step (bw HB) hb); (try clear hb); (try clear hb2); (try clear hk); (try clear hi); obtain ⟨hcz17_0, hcz17_1, hcz17_2, hcz17_3⟩ := zc4 BK741; have hfz17_0 := zf BK741) | (go_at_call 64; (with_reducible refine (spec_l1In.calls a0_1 0 99999 true _ A5.out).mono ?_); rintro e w' ⟨rfl, ⟨nd, rfl⟩⟩) | (go_at_call 64; (with_reducible refine (spec_l1In.calls a0_2 a0_1 99999 false _ A7.out).mono ?_); rintro e w' ⟨rfl, ⟨nd, rfl⟩⟩))
     go_ret
     exact ⟨er, (bw HB)⟩
   ·replace c6 := Bool.eq_false_iff.mpr c6
    subst c6
    have H1 : (some false) = some r := by rw [if_neg (show ¬ (false = true) by decide)] at H; exact H
    clear H
    have H := H1
    clear H1
    obtain rfl := Option.some.inj H
    go_enter Try.func41, Try.ntmps41
    go_wp2_with (first | ((with_reducible refine gate_dst (N := 1) rfl ?_); (try (refine gate_guard (by rfl) ?_; dsimp only)); refine box_event rfl (N := 1) rfl (cs := #[.slice A0_0 l0_0.length c0_0, .int .i64 a0_1, .int .i64 a0_2, .string a0_3]) (t := 29) gs ?_; intro gb741 hg w18 hbox hb; have BK741 := aM (hbox); have GW741 := gw hg (bw HB); have GE741 := gw hg (bw HB); replace HB := aM (below_step (bw HB) hb); clear hb hbox hg; obtain ⟨hcz19_0, hcz19_1, hcz19_2, hcz19_3⟩ := zc4 BK741; have hfz19_0 := zf BK741) | (refine gl_ (some 5) Try.func63 #[.slice A0_0 l0_0.length c0_0] ?_; (with_reducible refine (spec_SetOk.calls k _ _ l0_0 true _ ?side1 ?side2 A2.out).mono ?_); (case side1 => exact cA (Kd.C_below HR0_0.out HB.out)); (case side2 => exact HC0_0.out); rintro e w20 ⟨rfl, hb⟩; refine ⟨_, rfl, ?_⟩; replace BK741 := bb BK741 hb; replace HB := aM (below_step (bw HB) hb); (try clear hb); (try clear hb2); (try clear hk); (try clear hi); obtain ⟨hcz21_0, hcz21_1, hcz21_2, hcz21_3⟩ := zc4 BK741; have hfz21_0 := zf BK741) | (go_at_call 64; (with_reducible refine (spec_l1In.calls a0_1 0 99999 false _ A5.out).mono ?_); rintro e w' ⟨rfl, ⟨nd, rfl⟩⟩))
    go_ret
    exact ⟨er, (bw HB)⟩
  ·rw [if_neg c4] at H; have c4b0 : decide (0 < (l0_0.length : Int)) = false := decide_eq_false c4
   have c4b1 : decide (0 < l0_0.length) = false := decide_eq_false (by omega)
   clear c4
   obtain rfl := Option.some.inj H
   go_enter Try.func41, Try.ntmps41
   go_wp2_with (first | ((with_reducible refine gate_dst (N := 1) rfl ?_); (try (refine gate_guard (by rfl) ?_; dsimp only)); refine box_event rfl (N := 1) rfl (cs := #[.slice A0_0 l0_0.length c0_0, .int .i64 a0_1, .int .i64 a0_2, .string a0_3]) (t := 29) gs ?_; intro gb741 hg w22 hbox hb; have BK741 := aM (hbox); have GW741 := gw hg (bw HB); have GE741 := gw hg (bw HB); replace HB := aM (below_step (bw HB) hb); clear hb hbox hg; obtain ⟨hcz23_0, hcz23_1, hcz23_2, hcz23_3⟩ := zc4 BK741; have hfz23_0 := zf BK741) | (refine gl_ (some 5) Try.func63 #[.slice A0_0 l0_0.length c0_0] ?_; (with_reducible refine (spec_SetOk.calls k _ _ l0_0 true _ ?side1 ?side2 A2.out).mono ?_); (case side1 => exact cA (Kd.C_below HR0_0.out HB.out)); (case side2 => exact HC0_0.out); rintro e w24 ⟨rfl, hb⟩; refine ⟨_, rfl, ?_⟩; replace BK741 := bb BK741 hb; replace HB := aM (below_step (bw HB) hb); (try clear hb); (try clear hb2); (try clear hk); (try clear hi); obtain ⟨hcz25_0, hcz25_1, hcz25_2, hcz25_3⟩ := zc4 BK741; have hfz25_0 := zf BK741))
   go_ret
   exact ⟨er, (bw HB)⟩
 ·replace c3 := Bool.eq_false_iff.mpr c3
  subst c3
  have H1 : (some false) = some r := by rw [if_neg (show ¬ (false = true) by decide)] at H; exact H
  clear H
  have H := H1
  clear H1
  obtain rfl := Option.some.inj H
  go_enter Try.func41, Try.ntmps41
  go_wp2_with (first | ((with_reducible refine gate_dst (N := 1) rfl ?_); (try (refine gate_guard (by rfl) ?_; dsimp only)); refine box_event rfl (N := 1) rfl (cs := #[.slice A0_0 l0_0.length c0_0, .int .i64 a0_1, .int .i64 a0_2, .string a0_3]) (t := 29) gs ?_; intro gb741 hg w26 hbox hb; have BK741 := aM (hbox); have GW741 := gw hg (bw HB); have GE741 := gw hg (bw HB); replace HB := aM (below_step (bw HB) hb); clear hb hbox hg; obtain ⟨hcz27_0, hcz27_1, hcz27_2, hcz27_3⟩ := zc4 BK741; have hfz27_0 := zf BK741) | (refine gl_ (some 5) Try.func63 #[.slice A0_0 l0_0.length c0_0] ?_; (with_reducible refine (spec_SetOk.calls k _ _ l0_0 false _ ?side1 ?side2 A2.out).mono ?_); (case side1 => exact cA (Kd.C_below HR0_0.out HB.out)); (case side2 => exact HC0_0.out); rintro e w28 ⟨rfl, hb⟩; refine ⟨_, rfl, ?_⟩; replace BK741 := bb BK741 hb; replace HB := aM (below_step (bw HB) hb); (try clear hb); (try clear hb2); (try clear hk); (try clear hi)))
  go_ret
  exact ⟨er, (bw HB)⟩

end Go.Proofs.Ytdhignbneeapiaa.PFnChains
