/- What the Go functions that FnChains reaches compute, as Lean functions, and that the machine's calls do so; no conditions. -/
import Derived.Test.YtdhignbneeapiaaPFnChainsx0
import Derived.Test.YtdhignbneeapiaaPFnChainsx14
namespace Go.Proofs.Ytdhignbneeapiaa.PFnChains
open Go.Proofs.Ytdhignbneeapiaa
open Go.RowKit Go.Proofs.YtdhignbneeapiaaW.PrintWords Go.Proofs.YtdhignbneeapiaaW.PrintLast Go.Proofs.YtdhignbneeapiaaW.PrintMore
attribute [local go_sem] max2_int min2_int max_two min_two max_three min_three max_four min_four   -- for this text's walks alone
set_option linter.unusedVariables false
set_option linter.unusedSimpArgs false

/-! ### impl_SetOk: function 58 -/
def impl_SetOk.l0 : Nat → List (S76) → List (S76) → Int → Int → Option (Bool)
 | 0, _, _, _, _ => none
 | k + 1, x0, x5, x6, x7 => if x7 < x6 then (if 0 ≤ x7 then (if x7 < (x5.length : Int) then (if x7 ≥ 4 then (some false) else ((impl_LabelOk.f k ((rd_T76 x5 x7).f0) ((rd_T76 x5 x7).f1)).bind fun t712 => (if t712 = true then (if x7 > 0 then (if 0 ≤ (wrap64 (x7 - 1)) then (if (wrap64 (x7 - 1)) < (x0.length : Int) then (if ((Op.bytesLess (((rd_T76 x0 (wrap64 (x7 - 1))).f0).toList) (((rd_T76 x5 x7).f0).toList)) = true) then (impl_SetOk.l0 k x0 x5 x6 (wrap64 (x7 + 1))) else (some false)) else (none)) else (none)) else (impl_SetOk.l0 k x0 x5 x6 (wrap64 (x7 + 1)))) else (some false)))) else (none)) else (none)) else (some true)
def impl_SetOk.f (k : Nat) (l0 : List (S76)) : Option (Bool) := impl_SetOk.l0 k l0 l0 (l0.length : Int) 0
def impl_SetOk.T4 : Bool × List (List Nat × List Nat) := (true, [([], []), ([0], [0]), ([1], [1]), ([2], [2]), ([3, 2, 2], [2, 3]), ([4, 2], [2, 4]), ([2, 5], [2, 5]), ([6, 4], [6]), ([7], [7]), ([8, 7], [7, 8]), ([9, 7, 7], [7, 9]), ([10], [10]), ([10], [10]), ([12, 10], [10, 12]), ([11, 13, 10], [10, 11, 13]), ([14, 10], [10, 14]), ([15, 10], [10, 15]), ([10], [10]), ([17, 10], [10, 17]), ([16, 18, 10], [10, 16, 18]), ([10, 19, 7], [7, 10, 19]), ([7, 20], [7, 20])])
def impl_SetOk.B4 : List Nat := [0, 1, 3, 7, 15, 31, 63, 127, 255, 511, 1023, 2047, 2047, 6143, 16383, 32767, 65535, 2047, 133119, 524287, 1048575, 2097151]
theorem impl_SetOk.tab4 : rtab .any (opsOf Try.f58 4) = impl_SetOk.T4 := by kernel_rfl
theorem impl_SetOk.bits4 : waitsOk impl_SetOk.T4.2 impl_SetOk.B4 = true := by kernel_rfl
set_option maxHeartbeats 8000000 in
set_option maxRecDepth 100000 in
theorem impl_SetOk.calls (k : Nat) (A0 : Option Addr) (c0 : Nat) (l0 : List (S76)) (r : Bool) (w : World) (hr0 : Kd.C k76 w A0 l0.length l0) (hc0 : l0.length ≤ c0) (h : impl_SetOk.f k l0 = some r) :
  Calls Try.prog 58 #[.slice A0 l0.length c0] w fun e w' => e = .returned (.bool r) ∧ Below w.heap.size w w' := by
 have hu76 := Try.underlying76
 have HR0 := aM hr0
 have HC0 := aM hc0
 clear hr0 hc0
 have HB := aM (Below.refl w.heap.size w)
 have H : (impl_SetOk.l0 k l0 l0 (l0.length : Int) 0) = some r := h
 clear h
 have H' := aM H
 clear H
 go_enter Try.func58, Try.ntmps58
 go_wp2
 go_loopg [7] k (fun kq v7 w' => ∃ (x7_1 : Int), v7 = .int .i64 x7_1 ∧ Aside0 (impl_SetOk.l0 kq l0 l0 (l0.length : Int) x7_1 = some r) ∧ Aside0 (kq ≤ k) ∧ Aside0 (Below w.heap.size w w'))
 case atStart => exact ⟨(0), rs_, H', ⟨Nat.le_refl _⟩, ⟨(bw HB)⟩⟩
 case round =>
  clear H'
  obtain ⟨x7_1, rfl, HA, HK1, HB⟩ := hrel
  cases gk with
  | zero => exact absurd HA.out (by simp [impl_SetOk.l0])
  | succ k1 =>
   have H := HA.out
   clear HA
   simp only [impl_SetOk.l0] at H
   by_cases c2 : x7_1 < (l0.length : Int)
   ·rw [if_pos c2] at H; have c2b0 : decide (x7_1 < (l0.length : Int)) = true := decide_eq_true c2; clear c2
    by_cases c3 : 0 ≤ x7_1
    ·rw [if_pos c3] at H; have c3b0 : decide (0 ≤ x7_1) = true := decide_eq_true c3; clear c3
     by_cases c4 : x7_1 < (l0.length : Int)
     ·rw [if_pos c4] at H; have c4b0 : decide (x7_1 < (l0.length : Int)) = true := decide_eq_true c4; clear c4
      by_cases c5 : x7_1 ≥ 4
      ·rw [if_pos c5] at H; have c5b0 : decide (4 ≤ x7_1) = true := decide_eq_true c5; clear c5
       obtain rfl := Option.some.inj H
       have p710 : 0 ≤ (x7_1 : Int) := of_decide_eq_true as_
       have q710 : x7_1 < (l0.length : Int) := of_decide_eq_true as_
       obtain ⟨ad710, e710, hx710_0, hx710_1⟩ := at_T76 HR0.out x7_1 p710 q710
       cases e710
       replace hx710_0 := cb HB hx710_0
       replace hx710_1 := cb HB hx710_1
       replace p710 := eq_true p710
       replace q710 := eq_true q710
       try go_wp2_with (first | (refine be_ 4 #[.string (⟨#[]⟩ : ByteArray), .string (⟨#[]⟩ : ByteArray)] 76 ?_; intro gb711 hg w6 hbox hb; have BK711 := aM (hbox); have GW711 := gw hg (bw HB); have GE711 := gw hg (bw HB); replace HB := aM (below_step (bw HB) hb); clear hb hbox hg; obtain ⟨hcz7_0, hcz7_1⟩ := zc2 BK711; have hfz7_0 := zf BK711))
       have n0_ : Aside0 (((w6.setCell ⟨gb711, 0, none⟩ (.string ((rd_T76 l0 x7_1).f0))).setCell ⟨gb711, 1, none⟩ (.string ((rd_T76 l0 x7_1).f1))).heap[gb711]? = some (.cells #[.string ((rd_T76 l0 x7_1).f0), .string ((rd_T76 l0 x7_1).f1)] 76 (0, 0))) := ⟨by refine blk_put (cs := #[.string ((rd_T76 l0 x7_1).f0), .string (⟨#[]⟩ : ByteArray)]) ?_ 1 _ rfl; refine blk_put (cs := #[.string (⟨#[]⟩ : ByteArray), .string (⟨#[]⟩ : ByteArray)]) ?_ 0 _ rfl; exact aB BK711⟩
       have n1_ : Aside0 (Below w.heap.size w ((w6.setCell ⟨gb711, 0, none⟩ (.string ((rd_T76 l0 x7_1).f0))).setCell ⟨gb711, 1, none⟩ (.string ((rd_T76 l0 x7_1).f1)))) := ⟨(bw HB)⟩
       (try clear BK711)
       (try clear HB)
       generalize ((w6.setCell ⟨gb711, 0, none⟩ (.string ((rd_T76 l0 x7_1).f0))).setCell ⟨gb711, 1, none⟩ (.string ((rd_T76 l0 x7_1).f1))) = w8 at n0_ n1_ ⊢
       have BK711 := n0_; have HB := n1_; clear n0_ n1_
       replace BK711 := aM (blk_drew BK711.out)
       replace HB := aM (below_drew1 HB.out)
       refine start_ (n := 22) (S := fun w' => True) (ds := []) (bz 22 0) (by kernel_rfl) rfl (by kernel_rfl) trivial (fun hHeld => ?_); refine with_tabW impl_SetOk.tab4 impl_SetOk.bits4 (fun HT_ HW_ => ?_)
       generalize w8.drew = w9 at BK711 HB hHeld ⊢
       refine (pu 0 (some 12) 1 ?_ ?_ HT_ ?_ ?_ ?_ (pu 1 (some 13) 3 ?_ ?_ HT_ ?_ ?_ ?_ (pu 2 (some 14) 7 ?_ ?_ HT_ ?_ ?_ ?_ (po 3 (some 15) 15 ?_ HT_ ?_ ?_ (po 4 (some 16) 31 ?_ HT_ ?_ ?_ (po 5 (some 17) 63 ?_ HT_ ?_ ?_ (pu 6 (some 18) 127 ?_ ?_ HT_ ?_ ?_ ?_ (pu 7 (some 19) 255 ?_ ?_ HT_ ?_ ?_ ?_ (po 8 (some 20) 511 ?_ HT_ ?_ ?_ (po 9 (some 21) 1023 ?_ HT_ ?_ ?_ (po 10 (some 22) 2047 ?_ HT_ ?_ ?_ (po 11 (some 23) 4095 ?_ HT_ ?_ ?_ (po 12 (some 24) 8191 ?_ HT_ ?_ ?_ (po 13 (some 25) 16383 ?_ HT_ ?_ ?_ (po 14 (some 26) 32767 ?_ HT_ ?_ ?_ (po 15 (some 27) 65535 ?_ HT_ ?_ ?_ (po 16 (some 28) 131071 ?_ HT_ ?_ ?_ (po 17 (some 29) 262143 ?_ HT_ ?_ ?_ (po 18 (some 30) 524287 ?_ HT_ ?_ ?_ (po 19 (some 31) 1048575 ?_ HT_ ?_ ?_ (po 20 (some 32) 2097151 ?_ HT_ ?_ ?_ (pu 21 (some 33) 4194303 ?_ ?_ HT_ ?_ ?_ ?_ ?_))))))))))))))))))))))
       all_goals first | (intro w'; go_simp; with_reducible rfl) | (simp only [u6_]; rfl) | rfl | skip
       refine done_ (done_of HT_.out (by kernel_rfl)) ?_
       try go_wp2
       go_ret
       exact ⟨er, (bw HB)⟩
      ·rw [if_neg c5] at H; have c5b0 : decide (4 ≤ x7_1) = false := decide_eq_false c5; clear c5; replace H := bs_ H; obtain ⟨t712, A100, H⟩ := H; try dsimp only at H
       have A10 := aM A100
       clear A100
       by_cases c11 : t712 = true
       ·subst c11
        have H1 : (if x7_1 > 0 then (if 0 ≤ (wrap64 (x7_1 - 1)) then (if (wrap64 (x7_1 - 1)) < (l0.length : Int) then (if ((Op.bytesLess (((rd_T76 l0 (wrap64 (x7_1 - 1))).f0).toList) (((rd_T76 l0 x7_1).f0).toList)) = true) then (impl_SetOk.l0 k1 l0 l0 (l0.length : Int) (wrap64 (x7_1 + 1))) else (some false)) else (none)) else (none)) else (impl_SetOk.l0 k1 l0 l0 (l0.length : Int) (wrap64 (x7_1 + 1)))) = some r := by rw [if_pos rfl] at H; exact H
        clear H
        have H := H1
        clear H1
        by_cases c12 : x7_1 > 0
        ·rw [if_pos c12] at H; have c12b0 : decide (0 < x7_1) = true := decide_eq_true c12; clear c12
         obtain ⟨ji13, hji13⟩ : ∃ j_ : Int, (wrap64 (x7_1 - 1)) = j_ := ⟨_, rfl⟩
         replace H : (if 0 ≤ (ji13) then (if (ji13) < (l0.length : Int) then (if ((Op.bytesLess (((rd_T76 l0 (ji13)).f0).toList) (((rd_T76 l0 x7_1).f0).toList)) = true) then (impl_SetOk.l0 k1 l0 l0 (l0.length : Int) (wrap64 (x7_1 + 1))) else (some false)) else (none)) else (none)) = some r := by first | (rw [hji13] at H; exact H) | (simp only [hji13] at H ⊢; exact H)
         (try rw [hji13] at A10)
         have hji13w : (IntKind.i64.wrap (x7_1 - 1)) = ji13 := (i64_w _).trans hji13
         by_cases c14 : 0 ≤ (ji13)
         ·rw [if_pos c14] at H; have c14b0 : decide (0 ≤ (ji13)) = true := decide_eq_true c14; clear c14
          by_cases c15 : (ji13) < (l0.length : Int)
          ·rw [if_pos c15] at H; have c15b0 : decide ((ji13) < (l0.length : Int)) = true := decide_eq_true c15; clear c15
           by_cases c16 : ((Op.bytesLess (((rd_T76 l0 (ji13)).f0).toList) (((rd_T76 l0 x7_1).f0).toList)) = true)
           ·rw [if_pos c16] at H
            have c16b0 : (Op.bytesLess (((rd_T76 l0 (ji13)).f0).toList) (((rd_T76 l0 x7_1).f0).toList)) = true := c16
            clear c16
            have H' := aM H
            clear H
            have p710 : 0 ≤ (x7_1 : Int) := of_decide_eq_true as_
            have q710 : x7_1 < (l0.length : Int) := of_decide_eq_true as_
            obtain ⟨ad710, e710, hx710_0, hx710_1⟩ := at_T76 HR0.out x7_1 p710 q710
            cases e710
            replace hx710_0 := cb HB hx710_0
            replace hx710_1 := cb HB hx710_1
            replace p710 := eq_true p710
            replace q710 := eq_true q710
            try go_wp2_with (first | (refine be_ 4 #[.string (⟨#[]⟩ : ByteArray), .string (⟨#[]⟩ : ByteArray)] 76 ?_; intro gb711 hg w17 hbox hb; have BK711 := aM (hbox); have GW711 := gw hg (bw HB); have GE711 := gw hg (bw HB); replace HB := aM (below_step (bw HB) hb); clear hb hbox hg; obtain ⟨hcz18_0, hcz18_1⟩ := zc2 BK711; have hfz18_0 := zf BK711))
            have n0_ : Aside0 (((w17.setCell ⟨gb711, 0, none⟩ (.string ((rd_T76 l0 x7_1).f0))).setCell ⟨gb711, 1, none⟩ (.string ((rd_T76 l0 x7_1).f1))).heap[gb711]? = some (.cells #[.string ((rd_T76 l0 x7_1).f0), .string ((rd_T76 l0 x7_1).f1)] 76 (0, 0))) := ⟨by refine blk_put (cs := #[.string ((rd_T76 l0 x7_1).f0), .string (⟨#[]⟩ : ByteArray)]) ?_ 1 _ rfl; refine blk_put (cs := #[.string (⟨#[]⟩ : ByteArray), .string (⟨#[]⟩ : ByteArray)]) ?_ 0 _ rfl; exact aB BK711⟩
            have n1_ : Aside0 (Below w.heap.size w ((w17.setCell ⟨gb711, 0, none⟩ (.string ((rd_T76 l0 x7_1).f0))).setCell ⟨gb711, 1, none⟩ (.string ((rd_T76 l0 x7_1).f1)))) := ⟨(bw HB)⟩
            (try clear BK711)
            (try clear HB)
            generalize ((w17.setCell ⟨gb711, 0, none⟩ (.string ((rd_T76 l0 x7_1).f0))).setCell ⟨gb711, 1, none⟩ (.string ((rd_T76 l0 x7_1).f1))) = w19 at n0_ n1_ ⊢
            have BK711 := n0_; have HB := n1_; clear n0_ n1_
            replace BK711 := aM (blk_drew BK711.out)
            replace HB := aM (below_drew1 HB.out)
            have p713 : 0 ≤ ((ji13) : Int) := of_decide_eq_true as_
            have q713 : (ji13) < (l0.length : Int) := of_decide_eq_true as_
            obtain ⟨ad713, e713, hx713_0, hx713_1⟩ := at_T76 HR0.out (ji13) p713 q713
            have hw713_1 := hx713_1
            have hw713_0 := hx713_0
            obtain rfl : ad710 = ad713 := (by injection e713)
            replace hx713_0 := cb HB hx713_0
            replace hx713_1 := cb HB hx713_1
            replace p713 := eq_true p713
            replace q713 := eq_true q713
            refine start_ (n := 22) (S := fun w' => w'.cell? ⟨gb711, 0, none⟩ = some (.string ((rd_T76 l0 x7_1).f0)) ∧ w'.cell? ⟨gb711, 1, none⟩ = some (.string ((rd_T76 l0 x7_1).f1)) ∧ w'.cell? (ad710.add (((ji13)).toNat * 2)) = some (.string ((rd_T76 l0 (ji13)).f0)) ∧ w'.cell? ⟨(ad710.add (((ji13)).toNat * 2)).block, (ad710.add (((ji13)).toNat * 2)).off + 1, none⟩ = some (.string ((rd_T76 l0 (ji13)).f1))) (ds := []) (bz 22 0) (by kernel_rfl) rfl (by kernel_rfl) ⟨(blk_cell BK711.out 0).trans rfl, (blk_cell BK711.out 1).trans rfl, (cB HB hw713_0), (cB HB hw713_1)⟩ (fun hHeld => ?_); refine with_tabW impl_SetOk.tab4 impl_SetOk.bits4 (fun HT_ HW_ => ?_)
            generalize w19.drew = w20 at BK711 HB hx713_0 hx713_1 hHeld ⊢
            refine (pu 0 (some 12) 1 ?_ ?_ HT_ ?_ ?_ ?_ (pu 1 (some 13) 3 ?_ ?_ HT_ ?_ ?_ ?_ (pu 2 (some 14) 7 ?_ ?_ HT_ ?_ ?_ ?_ (tk 3 (some 15) 15 ?_ ?_ HT_ HW_ hHeld ?_ ?_ ?_ ?_))))
            all_goals first | (rintro w' ⟨s0, s1, s2, s3⟩; go_simp; with_reducible rfl) | (intro w'; go_simp; with_reducible rfl) | (simp only [u6_]; rfl) | rfl | skip
            refine one_ (i := 4) (N := some 16) (bz 22 31) rfl rfl (one_of HT_.out (by kernel_rfl)) (by decide) (fun K hK => ?_)
            refine goes_ Try.func72 (by kernel_rfl) rfl #[.agg #[.string ((rd_T76 l0 x7_1).f0), .string ((rd_T76 l0 x7_1).f1)]] (by rfl) rfl rfl mp ?_
            with_reducible refine (impl_LabelOk.calls k1 ((rd_T76 l0 x7_1).f0) ((rd_T76 l0 x7_1).f1) true _ A10.out).mono ?_
            rintro e w21 ⟨rfl, hb⟩
            refine ⟨_, rfl, ?_⟩
            replace BK711 := bb BK711 hb
            replace HB := aM (below_step (bw HB) hb)
            (try clear hb)
            (try clear hb2)
            (try clear hk)
            (try clear hi)
            refine hK.out _ _ ⟨(blk_cell BK711.out 0).trans rfl, (blk_cell BK711.out 1).trans rfl, (cB HB hw713_0), (cB HB hw713_1)⟩ (fun hHeld => ?_)
            clear hK K
            refine norm_ (a' := ?_) ?_ ?_
            rotate_left
            ·show Act.put _ (some 16) _ = _
             simp only [u6_]
             rfl
            refine (pu 5 (some 17) 63 ?_ ?_ HT_ ?_ ?_ ?_ (pu 6 (some 18) 127 ?_ ?_ HT_ ?_ ?_ ?_ (pu 7 (some 19) 255 ?_ ?_ HT_ ?_ ?_ ?_ (pu 8 (some 20) 511 ?_ ?_ HT_ ?_ ?_ ?_ (pu 9 (some 21) 1023 ?_ ?_ HT_ ?_ ?_ ?_ (pu 10 (some 22) 2047 ?_ ?_ HT_ ?_ ?_ ?_ (pu 11 (some 23) 4095 ?_ ?_ HT_ ?_ ?_ ?_ (pu 12 (some 24) 8191 ?_ ?_ HT_ ?_ ?_ ?_ (pu 13 (some 25) 16383 ?_ ?_ HT_ ?_ ?_ ?_ (pu 14 (some 26) 32767 ?_ ?_ HT_ ?_ ?_ ?_ (pu 15 (some 27) 65535 ?_ ?_ HT_ ?_ ?_ ?_ (pu 17 (some 29) 196607 ?_ ?_ HT_ ?_ ?_ ?_ (tk 16 (some 28) 262143 ?_ ?_ HT_ HW_ hHeld ?_ ?_ ?_ (tk 18 (some 30) 524287 ?_ ?_ HT_ HW_ hHeld ?_ ?_ ?_ (pu 19 (some 31) 1048575 ?_ ?_ HT_ ?_ ?_ ?_ (pu 20 (some 32) 2097151 ?_ ?_ HT_ ?_ ?_ ?_ (pu 21 (some 33) 4194303 ?_ ?_ HT_ ?_ ?_ ?_ ?_)))))))))))))))))
            all_goals first | (rintro w' ⟨s0, s1, s2, s3⟩; go_simp; with_reducible rfl) | (intro w'; go_simp; with_reducible rfl) | (simp only [u6_]; rfl) | rfl | skip
            refine done_ (done_of HT_.out (by kernel_rfl)) ?_
            try go_wp2
            go_roundg k1
            case measure => have := HK1.out; omega
            case rel => exact ⟨(wrap64 (x7_1 + 1)), rs_, H', ⟨by have := HK1.out; omega⟩, ⟨(bw HB)⟩⟩
           ·rw [if_neg c16] at H
            have c16b0 : (Op.bytesLess (((rd_T76 l0 (ji13)).f0).toList) (((rd_T76 l0 x7_1).f0).toList)) = false := by simpa using c16
            clear c16
            obtain rfl := Option.some.inj H
            have p710 : 0 ≤ (x7_1 : Int) := of_decide_eq_true as_
            have q710 : x7_1 < (l0.length : Int) := of_decide_eq_true as_
            obtain ⟨ad710, e710, hx710_0, hx710_1⟩ := at_T76 HR0.out x7_1 p710 q710
            cases e710
            replace hx710_0 := cb HB hx710_0
            replace hx710_1 := cb HB hx710_1
            replace p710 := eq_true p710
            replace q710 := eq_true q710
            try go_wp2_with (first | (refine be_ 4 #[.string (⟨#[]⟩ : ByteArray), .string (⟨#[]⟩ : ByteArray)] 76 ?_; intro gb711 hg w22 hbox hb; have BK711 := aM (hbox); have GW711 := gw hg (bw HB); have GE711 := gw hg (bw HB); replace HB := aM (below_step (bw HB) hb); clear hb hbox hg; obtain ⟨hcz23_0, hcz23_1⟩ := zc2 BK711; have hfz23_0 := zf BK711))
            have n0_ : Aside0 (((w22.setCell ⟨gb711, 0, none⟩ (.string ((rd_T76 l0 x7_1).f0))).setCell ⟨gb711, 1, none⟩ (.string ((rd_T76 l0 x7_1).f1))).heap[gb711]? = some (.cells #[.string ((rd_T76 l0 x7_1).f0), .string ((rd_T76 l0 x7_1).f1)] 76 (0, 0))) := ⟨by refine blk_put (cs := #[.string ((rd_T76 l0 x7_1).f0), .string (⟨#[]⟩ : ByteArray)]) ?_ 1 _ rfl; refine blk_put (cs := #[.string (⟨#[]⟩ : ByteArray), .string (⟨#[]⟩ : ByteArray)]) ?_ 0 _ rfl; exact aB BK711⟩
            have n1_ : Aside0 (Below w.heap.size w ((w22.setCell ⟨gb711, 0, none⟩ (.string ((rd_T76 l0 x7_1).f0))).setCell ⟨gb711, 1, none⟩ (.string ((rd_T76 l0 x7_1).f1)))) := ⟨(bw HB)⟩
            (try clear BK711)
            (try clear HB)
            generalize ((w22.setCell ⟨gb711, 0, none⟩ (.string ((rd_T76 l0 x7_1).f0))).setCell ⟨gb711, 1, none⟩ (.string ((rd_T76 l0 x7_1).f1))) = w24 at n0_ n1_ ⊢
            have BK711 := n0_; have HB := n1_; clear n0_ n1_
            replace BK711 := aM (blk_drew BK711.out)
            replace HB := aM (below_drew1 HB.out)
            have p713 : 0 ≤ ((ji13) : Int) := of_decide_eq_true as_
            have q713 : (ji13) < (l0.length : Int) := of_decide_eq_true as_
            obtain ⟨ad713, e713, hx713_0, hx713_1⟩ := at_T76 HR0.out (ji13) p713 q713
            have hw713_1 := hx713_1
            have hw713_0 := hx713_0
            obtain rfl : ad710 = ad713 := (by injection e713)
            replace hx713_0 := cb HB hx713_0
            replace hx713_1 := cb HB hx713_1
            replace p713 := eq_true p713
            replace q713 := eq_true q713
            refine start_ (n := 22) (S := fun w' => w'.cell? ⟨gb711, 0, none⟩ = some (.string ((rd_T76 l0 x7_1).f0)) ∧ w'.cell? ⟨gb711, 1, none⟩ = some (.string ((rd_T76 l0 x7_1).f1)) ∧ w'.cell? (ad710.add (((ji13)).toNat * 2)) = some (.string ((rd_T76 l0 (ji13)).f0)) ∧ w'.cell? ⟨(ad710.add (((ji13)).toNat * 2)).block, (ad710.add (((ji13)).toNat * 2)).off + 1, none⟩ = some (.string ((rd_T76 l0 (ji13)).f1))) (ds := []) (bz 22 0) (by kernel_rfl) rfl (by kernel_rfl) ⟨(blk_cell BK711.out 0).trans rfl, (blk_cell BK711.out 1).trans rfl, (cB HB hw713_0), (cB HB hw713_1)⟩ (fun hHeld => ?_); refine with_tabW impl_SetOk.tab4 impl_SetOk.bits4 (fun HT_ HW_ => ?_)
            generalize w24.drew = w25 at BK711 HB hx713_0 hx713_1 hHeld ⊢
            refine (pu 0 (some 12) 1 ?_ ?_ HT_ ?_ ?_ ?_ (pu 1 (some 13) 3 ?_ ?_ HT_ ?_ ?_ ?_ (pu 2 (some 14) 7 ?_ ?_ HT_ ?_ ?_ ?_ (tk 3 (some 15) 15 ?_ ?_ HT_ HW_ hHeld ?_ ?_ ?_ ?_))))
            all_goals first | (rintro w' ⟨s0, s1, s2, s3⟩; go_simp; with_reducible rfl) | (intro w'; go_simp; with_reducible rfl) | (simp only [u6_]; rfl) | rfl | skip
            refine one_ (i := 4) (N := some 16) (bz 22 31) rfl rfl (one_of HT_.out (by kernel_rfl)) (by decide) (fun K hK => ?_)
            refine goes_ Try.func72 (by kernel_rfl) rfl #[.agg #[.string ((rd_T76 l0 x7_1).f0), .string ((rd_T76 l0 x7_1).f1)]] (by rfl) rfl rfl mp ?_
            with_reducible refine (impl_LabelOk.calls k1 ((rd_T76 l0 x7_1).f0) ((rd_T76 l0 x7_1).f1) true _ A10.out).mono ?_
            rintro e w26 ⟨rfl, hb⟩
            refine ⟨_, rfl, ?_⟩
            replace BK711 := bb BK711 hb
            replace HB := aM (below_step (bw HB) hb)
            (try clear hb)
            (try clear hb2)
            (try clear hk)
            (try clear hi)
            refine hK.out _ _ ⟨(blk_cell BK711.out 0).trans rfl, (blk_cell BK711.out 1).trans rfl, (cB HB hw713_0), (cB HB hw713_1)⟩ (fun hHeld => ?_)
            clear hK K
            refine norm_ (a' := ?_) ?_ ?_
            rotate_left
            ·show Act.put _ (some 16) _ = _
             simp only [u6_]
             rfl
            refine (pu 5 (some 17) 63 ?_ ?_ HT_ ?_ ?_ ?_ (pu 6 (some 18) 127 ?_ ?_ HT_ ?_ ?_ ?_ (pu 7 (some 19) 255 ?_ ?_ HT_ ?_ ?_ ?_ (pu 8 (some 20) 511 ?_ ?_ HT_ ?_ ?_ ?_ (pu 9 (some 21) 1023 ?_ ?_ HT_ ?_ ?_ ?_ (pu 10 (some 22) 2047 ?_ ?_ HT_ ?_ ?_ ?_ (pu 11 (some 23) 4095 ?_ ?_ HT_ ?_ ?_ ?_ (pu 12 (some 24) 8191 ?_ ?_ HT_ ?_ ?_ ?_ (pu 13 (some 25) 16383 ?_ ?_ HT_ ?_ ?_ ?_ (pu 14 (some 26) 32767 ?_ ?_ HT_ ?_ ?_ ?_ (pu 15 (some 27) 65535 ?_ ?_ HT_ ?_ ?_ ?_ (pu 17 (some 29) 196607 ?_ ?_ HT_ ?_ ?_ ?_ (tk 16 (some 28) 262143 ?_ ?_ HT_ HW_ hHeld ?_ ?_ ?_ (tk 18 (some 30) 524287 ?_ ?_ HT_ HW_ hHeld ?_ ?_ ?_ (pu 19 (some 31) 1048575 ?_ ?_ HT_ ?_ ?_ ?_ (pu 20 (some 32) 2097151 ?_ ?_ HT_ ?_ ?_ ?_ (pu 21 (some 33) 4194303 ?_ ?_ HT_ ?_ ?_ ?_ ?_)))))))))))))))))
            all_goals first | (rintro w' ⟨s0, s1, s2, s3⟩; go_simp; with_reducible rfl) | (intro w'; go_simp; with_reducible rfl) | (simp only [u6_]; rfl) | rfl | skip
            refine done_ (done_of HT_.out (by kernel_rfl)) ?_
            try go_wp2
            go_ret
            exact ⟨by first | rfl | (simp [errW_none, errW_some] <;> rfl) | (simp only [← hji13]; first | rfl | (simp [errW_none, errW_some] <;> rfl)) | (simp [*, errW_none, errW_some] <;> rfl), (bw HB)⟩
          ·rw [if_neg c15] at H
           exact absurd H (by simp)
         ·rw [if_neg c14] at H
          exact absurd H (by simp)
        ·rw [if_neg c12] at H; have c12b0 : decide (0 < x7_1) = false := decide_eq_false c12; clear c12
         have H' := aM H
         clear H
         have p710 : 0 ≤ (x7_1 : Int) := of_decide_eq_true as_
         have q710 : x7_1 < (l0.length : Int) := of_decide_eq_true as_
         obtain ⟨ad710, e710, hx710_0, hx710_1⟩ := at_T76 HR0.out x7_1 p710 q710
         cases e710
         replace hx710_0 := cb HB hx710_0
         replace hx710_1 := cb HB hx710_1
         replace p710 := eq_true p710
         replace q710 := eq_true q710
         try go_wp2_with (first | (refine be_ 4 #[.string (⟨#[]⟩ : ByteArray), .string (⟨#[]⟩ : ByteArray)] 76 ?_; intro gb711 hg w27 hbox hb; have BK711 := aM (hbox); have GW711 := gw hg (bw HB); have GE711 := gw hg (bw HB); replace HB := aM (below_step (bw HB) hb); clear hb hbox hg; obtain ⟨hcz28_0, hcz28_1⟩ := zc2 BK711; have hfz28_0 := zf BK711))
         have n0_ : Aside0 (((w27.setCell ⟨gb711, 0, none⟩ (.string ((rd_T76 l0 x7_1).f0))).setCell ⟨gb711, 1, none⟩ (.string ((rd_T76 l0 x7_1).f1))).heap[gb711]? = some (.cells #[.string ((rd_T76 l0 x7_1).f0), .string ((rd_T76 l0 x7_1).f1)] 76 (0, 0))) := ⟨by refine blk_put (cs := #[.string ((rd_T76 l0 x7_1).f0), .string (⟨#[]⟩ : ByteArray)]) ?_ 1 _ rfl; refine blk_put (cs := #[.string (⟨#[]⟩ : ByteArray), .string (⟨#[]⟩ : ByteArray)]) ?_ 0 _ rfl; exact aB BK711⟩
         have n1_ : Aside0 (Below w.heap.size w ((w27.setCell ⟨gb711, 0, none⟩ (.string ((rd_T76 l0 x7_1).f0))).setCell ⟨gb711, 1, none⟩ (.string ((rd_T76 l0 x7_1).f1)))) := ⟨(bw HB)⟩
         (try clear BK711)
         (try clear HB)
         generalize ((w27.setCell ⟨gb711, 0, none⟩ (.string ((rd_T76 l0 x7_1).f0))).setCell ⟨gb711, 1, none⟩ (.string ((rd_T76 l0 x7_1).f1))) = w29 at n0_ n1_ ⊢
         have BK711 := n0_; have HB := n1_; clear n0_ n1_
         replace BK711 := aM (blk_drew BK711.out)
         replace HB := aM (below_drew1 HB.out)
         refine start_ (n := 22) (S := fun w' => w'.cell? ⟨gb711, 0, none⟩ = some (.string ((rd_T76 l0 x7_1).f0)) ∧ w'.cell? ⟨gb711, 1, none⟩ = some (.string ((rd_T76 l0 x7_1).f1))) (ds := []) (bz 22 0) (by kernel_rfl) rfl (by kernel_rfl) ⟨(blk_cell BK711.out 0).trans rfl, (blk_cell BK711.out 1).trans rfl⟩ (fun hHeld => ?_); refine with_tabW impl_SetOk.tab4 impl_SetOk.bits4 (fun HT_ HW_ => ?_)
         generalize w29.drew = w30 at BK711 HB hHeld ⊢
         refine (pu 0 (some 12) 1 ?_ ?_ HT_ ?_ ?_ ?_ (pu 1 (some 13) 3 ?_ ?_ HT_ ?_ ?_ ?_ (pu 2 (some 14) 7 ?_ ?_ HT_ ?_ ?_ ?_ (tk 3 (some 15) 15 ?_ ?_ HT_ HW_ hHeld ?_ ?_ ?_ ?_))))
         all_goals first | (rintro w' ⟨s0, s1⟩; go_simp; with_reducible rfl) | (intro w'; go_simp; with_reducible rfl) | (simp only [u6_]; rfl) | rfl | skip
         refine one_ (i := 4) (N := some 16) (bz 22 31) rfl rfl (one_of HT_.out (by kernel_rfl)) (by decide) (fun K hK => ?_)
         refine goes_ Try.func72 (by kernel_rfl) rfl #[.agg #[.string ((rd_T76 l0 x7_1).f0), .string ((rd_T76 l0 x7_1).f1)]] (by rfl) rfl rfl mp ?_
         with_reducible refine (impl_LabelOk.calls k1 ((rd_T76 l0 x7_1).f0) ((rd_T76 l0 x7_1).f1) true _ A10.out).mono ?_
         rintro e w31 ⟨rfl, hb⟩
         refine ⟨_, rfl, ?_⟩
         replace BK711 := bb BK711 hb
         replace HB := aM (below_step (bw HB) hb)
         (try clear hb)
         (try clear hb2)
         (try clear hk)
         (try clear hi)
         refine hK.out _ _ ⟨(blk_cell BK711.out 0).trans rfl, (blk_cell BK711.out 1).trans rfl⟩ (fun hHeld => ?_)
         clear hK K
         refine norm_ (a' := ?_) ?_ ?_
         rotate_left
         ·show Act.put _ (some 16) _ = _
          simp only [u6_]
          rfl
         refine (pu 5 (some 17) 63 ?_ ?_ HT_ ?_ ?_ ?_ (pu 6 (some 18) 127 ?_ ?_ HT_ ?_ ?_ ?_ (pu 7 (some 19) 255 ?_ ?_ HT_ ?_ ?_ ?_ (pu 8 (some 20) 511 ?_ ?_ HT_ ?_ ?_ ?_ (pu 9 (some 21) 1023 ?_ ?_ HT_ ?_ ?_ ?_ (pu 10 (some 22) 2047 ?_ ?_ HT_ ?_ ?_ ?_ (po 11 (some 23) 4095 ?_ HT_ ?_ ?_ (po 12 (some 24) 8191 ?_ HT_ ?_ ?_ (po 13 (some 25) 16383 ?_ HT_ ?_ ?_ (po 14 (some 26) 32767 ?_ HT_ ?_ ?_ (po 15 (some 27) 65535 ?_ HT_ ?_ ?_ (po 16 (some 28) 131071 ?_ HT_ ?_ ?_ (po 17 (some 29) 262143 ?_ HT_ ?_ ?_ (po 18 (some 30) 524287 ?_ HT_ ?_ ?_ (po 19 (some 31) 1048575 ?_ HT_ ?_ ?_ (pu 20 (some 32) 2097151 ?_ ?_ HT_ ?_ ?_ ?_ (pu 21 (some 33) 4194303 ?_ ?_ HT_ ?_ ?_ ?_ ?_)))))))))))))))))
         all_goals first | (intro w'; go_simp; with_reducible rfl) | (simp only [u6_]; rfl) | rfl | skip
         refine done_ (done_of HT_.out (by kernel_rfl)) ?_
         try go_wp2
         go_roundg k1
         case measure => have := HK1.out; omega
         case rel => exact ⟨(wrap64 (x7_1 + 1)), rs_, H', ⟨by have := HK1.out; omega⟩, ⟨(bw HB)⟩⟩
       ·replace c11 := Bool.eq_false_iff.mpr c11
        subst c11
        have H1 : (some false) = some r := by rw [if_neg (show ¬ (false = true) by decide)] at H; exact H
        clear H
        have H := H1
        clear H1
        obtain rfl := Option.some.inj H
        have p710 : 0 ≤ (x7_1 : Int) := of_decide_eq_true as_
        have q710 : x7_1 < (l0.length : Int) := of_decide_eq_true as_
        obtain ⟨ad710, e710, hx710_0, hx710_1⟩ := at_T76 HR0.out x7_1 p710 q710
        cases e710
        replace hx710_0 := cb HB hx710_0
        replace hx710_1 := cb HB hx710_1
        replace p710 := eq_true p710
        replace q710 := eq_true q710
        try go_wp2_with (first | (refine be_ 4 #[.string (⟨#[]⟩ : ByteArray), .string (⟨#[]⟩ : ByteArray)] 76 ?_; intro gb711 hg w32 hbox hb; have BK711 := aM (hbox); have GW711 := gw hg (bw HB); have GE711 := gw hg (bw HB); replace HB := aM (below_step (bw HB) hb); clear hb hbox hg; obtain ⟨hcz33_0, hcz33_1⟩ := zc2 BK711; have hfz33_0 := zf BK711))
        have n0_ : Aside0 (((w32.setCell ⟨gb711, 0, none⟩ (.string ((rd_T76 l0 x7_1).f0))).setCell ⟨gb711, 1, none⟩ (.string ((rd_T76 l0 x7_1).f1))).heap[gb711]? = some (.cells #[.string ((rd_T76 l0 x7_1).f0), .string ((rd_T76 l0 x7_1).f1)] 76 (0, 0))) := ⟨by refine blk_put (cs := #[.string ((rd_T76 l0 x7_1).f0), .string (⟨#[]⟩ : ByteArray)]) ?_ 1 _ rfl; refine blk_put (cs := #[.string (⟨#[]⟩ : ByteArray), .string (⟨#[]⟩ : ByteArray)]) ?_ 0 _ rfl; exact aB BK711⟩
        have n1_ : Aside0 (Below w.heap.size w ((w32.setCell ⟨gb711, 0, none⟩ (.string ((rd_T76 l0 x7_1).f0))).setCell ⟨gb711, 1, none⟩ (.string ((rd_T76 l0 x7_1).f1)))) := ⟨(bw HB)⟩
        (try clear BK711)
        (try clear HB)
        generalize ((w32.setCell ⟨gb711, 0, none⟩ (.string ((rd_T76 l0 x7_1).f0))).setCell ⟨gb711, 1, none⟩ (.string ((rd_T76 l0 x7_1).f1))) = w34 at n0_ n1_ ⊢
        have BK711 := n0_; have HB := n1_; clear n0_ n1_
        replace BK711 := aM (blk_drew BK711.out)
        replace HB := aM (below_drew1 HB.out)
        refine start_ (n := 22) (S := fun w' => w'.cell? ⟨gb711, 0, none⟩ = some (.string ((rd_T76 l0 x7_1).f0)) ∧ w'.cell? ⟨gb711, 1, none⟩ = some (.string ((rd_T76 l0 x7_1).f1))) (ds := []) (bz 22 0) (by kernel_rfl) rfl (by kernel_rfl) ⟨(blk_cell BK711.out 0).trans rfl, (blk_cell BK711.out 1).trans rfl⟩ (fun hHeld => ?_); refine with_tabW impl_SetOk.tab4 impl_SetOk.bits4 (fun HT_ HW_ => ?_)
        generalize w34.drew = w35 at BK711 HB hHeld ⊢
        refine (pu 0 (some 12) 1 ?_ ?_ HT_ ?_ ?_ ?_ (pu 1 (some 13) 3 ?_ ?_ HT_ ?_ ?_ ?_ (pu 2 (some 14) 7 ?_ ?_ HT_ ?_ ?_ ?_ (tk 3 (some 15) 15 ?_ ?_ HT_ HW_ hHeld ?_ ?_ ?_ ?_))))
        all_goals first | (rintro w' ⟨s0, s1⟩; go_simp; with_reducible rfl) | (intro w'; go_simp; with_reducible rfl) | (simp only [u6_]; rfl) | rfl | skip
        refine one_ (i := 4) (N := some 16) (bz 22 31) rfl rfl (one_of HT_.out (by kernel_rfl)) (by decide) (fun K hK => ?_)
        refine goes_ Try.func72 (by kernel_rfl) rfl #[.agg #[.string ((rd_T76 l0 x7_1).f0), .string ((rd_T76 l0 x7_1).f1)]] (by rfl) rfl rfl mp ?_
        with_reducible refine (impl_LabelOk.calls k1 ((rd_T76 l0 x7_1).f0) ((rd_T76 l0 x7_1).f1) false _ A10.out).mono ?_
        rintro e w36 ⟨rfl, hb⟩
        refine ⟨_, rfl, ?_⟩
        replace BK711 := bb BK711 hb
        replace HB := aM (below_step (bw HB) hb)
        (try clear hb)
        (try clear hb2)
        (try clear hk)
        (try clear hi)
        refine hK.out _ _ ⟨(blk_cell BK711.out 0).trans rfl, (blk_cell BK711.out 1).trans rfl⟩ (fun hHeld => ?_)
        clear hK K
        refine norm_ (a' := ?_) ?_ ?_
        rotate_left
        ·show Act.put _ (some 16) _ = _
         simp only [u6_]
         rfl
        refine (pu 5 (some 17) 63 ?_ ?_ HT_ ?_ ?_ ?_ (pu 6 (some 18) 127 ?_ ?_ HT_ ?_ ?_ ?_ (pu 7 (some 19) 255 ?_ ?_ HT_ ?_ ?_ ?_ (po 8 (some 20) 511 ?_ HT_ ?_ ?_ (po 9 (some 21) 1023 ?_ HT_ ?_ ?_ (po 10 (some 22) 2047 ?_ HT_ ?_ ?_ (po 11 (some 23) 4095 ?_ HT_ ?_ ?_ (po 12 (some 24) 8191 ?_ HT_ ?_ ?_ (po 13 (some 25) 16383 ?_ HT_ ?_ ?_ (po 14 (some 26) 32767 ?_ HT_ ?_ ?_ (po 15 (some 27) 65535 ?_ HT_ ?_ ?_ (po 16 (some 28) 131071 ?_ HT_ ?_ ?_ (po 17 (some 29) 262143 ?_ HT_ ?_ ?_ (po 18 (some 30) 524287 ?_ HT_ ?_ ?_ (po 19 (some 31) 1048575 ?_ HT_ ?_ ?_ (po 20 (some 32) 2097151 ?_ HT_ ?_ ?_ (pu 21 (some 33) 4194303 ?_ ?_ HT_ ?_ ?_ ?_ ?_)))))))))))))))))
        all_goals first | (intro w'; go_simp; with_reducible rfl) | (simp only [u6_]; rfl) | rfl | skip
        refine done_ (done_of HT_.out (by kernel_rfl)) ?_
        try go_wp2
        go_ret
        exact ⟨er, (bw HB)⟩
     ·rw [if_neg c4] at H
      exact absurd H (by simp)
    ·rw [if_neg c3] at H
     exact absurd H (by simp)
   ·rw [if_neg c2] at H; have c2b0 : decide (x7_1 < (l0.length : Int)) = false := decide_eq_false c2; clear c2
    obtain rfl := Option.some.inj H
    go_wp2
    go_ret
    exact ⟨er, (bw HB)⟩

end Go.Proofs.Ytdhignbneeapiaa.PFnChains
