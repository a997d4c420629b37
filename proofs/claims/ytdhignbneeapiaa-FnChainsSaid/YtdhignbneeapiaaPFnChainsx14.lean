/- What the Go functions that FnChains reaches compute, as Lean functions, and that the machine's calls do so; no conditions. -/
import Derived.Test.YtdhignbneeapiaaPFnChainsx0
import Derived.Test.YtdhignbneeapiaaPFnChainsx13
namespace Go.Proofs.Ytdhignbneeapiaa.PFnChains
open Go.Proofs.Ytdhignbneeapiaa
open Go.RowKit Go.Proofs.YtdhignbneeapiaaW.PrintWords Go.Proofs.YtdhignbneeapiaaW.PrintLast Go.Proofs.YtdhignbneeapiaaW.PrintMore
attribute [local go_sem] max2_int min2_int max_two min_two max_three min_three max_four min_four   -- for this text's walks alone
set_option linter.unusedVariables false
set_option linter.unusedSimpArgs false
set_option maxHeartbeats 8000000
set_option maxRecDepth 100000

/-! ### impl_sameAlarms: function 37 -/
def impl_sameAlarms.l0 : Nat → List (S29) → List (S29) → Int → Int → Option (Bool)
 | 0, _, _, _, _ => none
 | k + 1, x0, x1, x12, x13 => if x13 < x12 then (if 0 ≤ x13 then (if x13 < (x0.length : Int) then (if x13 < (x1.length : Int) then ((impl_SameAlarm.f k ((rd_T29 x0 x13).f0) ((rd_T29 x0 x13).f1) ((rd_T29 x0 x13).f2) ((rd_T29 x0 x13).f3) ((rd_T29 x1 x13).f0) ((rd_T29 x1 x13).f1) ((rd_T29 x1 x13).f2) ((rd_T29 x1 x13).f3)).bind fun t702 => (if t702 = true then (impl_sameAlarms.l0 k x0 x1 x12 (wrap64 (x13 + 1))) else (some false))) else (none)) else (none)) else (none)) else (some true)
def impl_sameAlarms.f (k : Nat) (l0 : List (S29)) (l1 : List (S29)) : Option (Bool) := if (l0.length : Int) = (l1.length : Int) then (impl_sameAlarms.l0 k l0 l1 (l0.length : Int) 0) else (some false)
def impl_sameAlarms.T6 : Bool × List (List Nat × List Nat) := (true, [([], []), ([], []), ([0, 1], [0, 1]), ([2], [2]), ([], []), ([], []), ([4, 5], [4, 5]), ([6], [6]), ([3, 7], [3, 7]), ([8], [8])])
def impl_sameAlarms.B6 : List Nat := [0, 0, 3, 7, 0, 0, 48, 112, 255, 511]
theorem impl_sameAlarms.tab6 : rtab .any (opsOf Try.f37 6) = impl_sameAlarms.T6 := by kernel_rfl
theorem impl_sameAlarms.bits6 : waitsOk impl_sameAlarms.T6.2 impl_sameAlarms.B6 = true := by kernel_rfl
theorem impl_sameAlarms.calls (k : Nat) (A0 : Option Addr) (c0 : Nat) (l0 : List (S29)) (A1 : Option Addr) (c1 : Nat) (l1 : List (S29)) (r : Bool) (w : World) (hr0 : Kd.C k29 w A0 l0.length l0) (hc0 : l0.length ≤ c0) (hr1 : Kd.C k29 w A1 l1.length l1) (hc1 : l1.length ≤ c1) (h : impl_sameAlarms.f k l0 l1 = some r) :
  Calls Try.prog 37 #[.slice A0 l0.length c0, .slice A1 l1.length c1] w fun e w' => e = .returned (.bool r) ∧ Below w.heap.size w w' := by
 have hu29 := Try.underlying29
 have HR0 := aM hr0
 have HC0 := aM hc0
 clear hr0 hc0
 have HR1 := aM hr1
 have HC1 := aM hc1
 clear hr1 hc1
 have HB := aM (Below.refl w.heap.size w)
 have H : (if (l0.length : Int) = (l1.length : Int) then (impl_sameAlarms.l0 k l0 l1 (l0.length : Int) 0) else (some false)) = some r := h
 clear h
 by_cases c3 : (l0.length : Int) = (l1.length : Int)
 ·rw [if_pos c3] at H
  have c3b0 : ((l0.length : Int) == (l1.length : Int)) = true := beq_iff_eq.mpr c3
  have c3b1 : ((l0.length : Int) != (l1.length : Int)) = false := bne_eq_false_iff_eq.mpr c3
  have c3b2 : (l0.length == l1.length) = true := by first | simpa using c3 | (simp at c3 ⊢; omega)
  clear c3
  have H' := aM H
  clear H
  go_enter Try.func37, Try.ntmps37
  go_wp2
  go_loopg [13] k (fun kq v13 w' => ∃ (x13_1 : Int), v13 = .int .i64 x13_1 ∧ Aside0 (impl_sameAlarms.l0 kq l0 l1 (l0.length : Int) x13_1 = some r) ∧ Aside0 (kq ≤ k) ∧ Aside0 (Below w.heap.size w w'))
  case atStart => exact ⟨(0), rs_, H', ⟨Nat.le_refl _⟩, ⟨(bw HB)⟩⟩
  case round =>
   clear H'
   try clear c1
   try clear p2
   try clear c3
   try clear c3b0
   try clear c3b1
   try clear c3b2
   obtain ⟨x13_1, rfl, HA, HK1, HB⟩ := hrel
   cases gk with
   | zero => exact absurd HA.out (by simp [impl_sameAlarms.l0])
   | succ k1 =>
    have H := HA.out
    clear HA
    simp only [impl_sameAlarms.l0] at H
    by_cases c4 : x13_1 < (l0.length : Int)
    ·rw [if_pos c4] at H; have c4b0 : decide (x13_1 < (l0.length : Int)) = true := decide_eq_true c4; clear c4
     by_cases c5 : 0 ≤ x13_1
     ·rw [if_pos c5] at H; have c5b0 : decide (0 ≤ x13_1) = true := decide_eq_true c5; clear c5
      by_cases c6 : x13_1 < (l0.length : Int)
      ·rw [if_pos c6] at H; have c6b0 : decide (x13_1 < (l0.length : Int)) = true := decide_eq_true c6; clear c6
       by_cases c7 : x13_1 < (l1.length : Int)
       ·rw [if_pos c7] at H; have c7b0 : decide (x13_1 < (l1.length : Int)) = true := decide_eq_true c7; clear c7; replace H := bs_ H; obtain ⟨t702, A80, H⟩ := H; try dsimp only at H
        have A8 := aM A80
        clear A80
        by_cases c9 : t702 = true
        ·subst c9
         have H1 : (impl_sameAlarms.l0 k1 l0 l1 (l0.length : Int) (wrap64 (x13_1 + 1))) = some r := by rw [if_pos rfl] at H; exact H
         clear H
         have H := H1
         clear H1
         have H' := aM H
         clear H
         try go_wp2
         replace HB := aM (below_drew1 HB.out)
         have p700 : 0 ≤ (x13_1 : Int) := of_decide_eq_true as_
         have q700 : x13_1 < (l0.length : Int) := of_decide_eq_true as_
         obtain ⟨ad700, A700_0, c700_0, e700, hx700_0, hx700_1, hx700_2, hx700_3, hl700_0, hi700_0⟩ := at_T29 HR0.out x13_1 p700 q700
         have hw700_3 := hx700_3
         have hw700_2 := hx700_2
         have hw700_1 := hx700_1
         have hw700_0 := hx700_0
         cases e700
         replace hx700_0 := cb HB hx700_0
         replace hx700_1 := cb HB hx700_1
         replace hx700_2 := cb HB hx700_2
         replace hx700_3 := cb HB hx700_3
         have HR700_0 := aM hi700_0
         have HC700_0 := aM hl700_0
         clear hi700_0 hl700_0
         replace p700 := eq_true p700
         replace q700 := eq_true q700
         have p701 : 0 ≤ (x13_1 : Int) := of_decide_eq_true as_
         have q701 : x13_1 < (l1.length : Int) := of_decide_eq_true as_
         obtain ⟨ad701, A701_0, c701_0, e701, hx701_0, hx701_1, hx701_2, hx701_3, hl701_0, hi701_0⟩ := at_T29 HR1.out x13_1 p701 q701
         have hw701_3 := hx701_3
         have hw701_2 := hx701_2
         have hw701_1 := hx701_1
         have hw701_0 := hx701_0
         cases e701
         replace hx701_0 := cb HB hx701_0
         replace hx701_1 := cb HB hx701_1
         replace hx701_2 := cb HB hx701_2
         replace hx701_3 := cb HB hx701_3
         have HR701_0 := aM hi701_0
         have HC701_0 := aM hl701_0
         clear hi701_0 hl701_0
         replace p701 := eq_true p701
         replace q701 := eq_true q701
         refine start_ (n := 10) (S := fun w' => w'.cell? (ad700.add ((x13_1).toNat * 4)) = some (.slice A700_0 ((rd_T29 l0 x13_1).f0).length c700_0) ∧ w'.cell? ⟨(ad700.add ((x13_1).toNat * 4)).block, (ad700.add ((x13_1).toNat * 4)).off + 1, none⟩ = some (.int .i64 ((rd_T29 l0 x13_1).f1)) ∧ w'.cell? ⟨(ad700.add ((x13_1).toNat * 4)).block, (ad700.add ((x13_1).toNat * 4)).off + 2, none⟩ = some (.int .i64 ((rd_T29 l0 x13_1).f2)) ∧ w'.cell? ⟨(ad700.add ((x13_1).toNat * 4)).block, (ad700.add ((x13_1).toNat * 4)).off + 3, none⟩ = some (.string ((rd_T29 l0 x13_1).f3)) ∧ w'.cell? (ad701.add ((x13_1).toNat * 4)) = some (.slice A701_0 ((rd_T29 l1 x13_1).f0).length c701_0) ∧ w'.cell? ⟨(ad701.add ((x13_1).toNat * 4)).block, (ad701.add ((x13_1).toNat * 4)).off + 1, none⟩ = some (.int .i64 ((rd_T29 l1 x13_1).f1)) ∧ w'.cell? ⟨(ad701.add ((x13_1).toNat * 4)).block, (ad701.add ((x13_1).toNat * 4)).off + 2, none⟩ = some (.int .i64 ((rd_T29 l1 x13_1).f2)) ∧ w'.cell? ⟨(ad701.add ((x13_1).toNat * 4)).block, (ad701.add ((x13_1).toNat * 4)).off + 3, none⟩ = some (.string ((rd_T29 l1 x13_1).f3))) (ds := []) (bz 10 0) (by kernel_rfl) rfl (by kernel_rfl) ⟨(cB HB hw700_0), (cB HB hw700_1), (cB HB hw700_2), (cB HB hw700_3), (cB HB hw701_0), (cB HB hw701_1), (cB HB hw701_2), (cB HB hw701_3)⟩ (fun hHeld => ?_); refine with_tabW impl_sameAlarms.tab6 impl_sameAlarms.bits6 (fun HT_ HW_ => ?_)
         generalize wr.drew = w10 at HB HR700_0 HR701_0 hx700_0 hx700_1 hx700_2 hx700_3 hx701_0 hx701_1 hx701_2 hx701_3 hHeld ⊢
         refine (pu 0 (some 16) 1 ?_ ?_ HT_ ?_ ?_ ?_ (pu 1 (some 17) 3 ?_ ?_ HT_ ?_ ?_ ?_ (pu 2 (some 18) 7 ?_ ?_ HT_ ?_ ?_ ?_ (pu 4 (some 20) 23 ?_ ?_ HT_ ?_ ?_ ?_ (pu 5 (some 21) 55 ?_ ?_ HT_ ?_ ?_ ?_ (pu 6 (some 22) 119 ?_ ?_ HT_ ?_ ?_ ?_ (tk 3 (some 19) 127 ?_ ?_ HT_ HW_ hHeld ?_ ?_ ?_ (tk 7 (some 23) 255 ?_ ?_ HT_ HW_ hHeld ?_ ?_ ?_ ?_))))))))
         all_goals first | (rintro w' ⟨s0, s1, s2, s3, s4, s5, s6, s7⟩; go_simp; with_reducible rfl) | (intro w'; go_simp; with_reducible rfl) | (simp only [u6_]; rfl) | rfl | skip
         refine one_ (i := 8) (N := some 24) (bz 10 511) rfl rfl (one_of HT_.out (by kernel_rfl)) (by decide) (fun K hK => ?_)
         refine goes_ Try.func21 (by kernel_rfl) rfl #[.agg #[.slice A700_0 ((rd_T29 l0 x13_1).f0).length c700_0, .int .i64 ((rd_T29 l0 x13_1).f1), .int .i64 ((rd_T29 l0 x13_1).f2), .string ((rd_T29 l0 x13_1).f3)], .agg #[.slice A701_0 ((rd_T29 l1 x13_1).f0).length c701_0, .int .i64 ((rd_T29 l1 x13_1).f1), .int .i64 ((rd_T29 l1 x13_1).f2), .string ((rd_T29 l1 x13_1).f3)]] (by rfl) rfl rfl mp ?_
         with_reducible refine (impl_SameAlarm.calls k1 _ _ ((rd_T29 l0 x13_1).f0) ((rd_T29 l0 x13_1).f1) ((rd_T29 l0 x13_1).f2) ((rd_T29 l0 x13_1).f3) _ _ ((rd_T29 l1 x13_1).f0) ((rd_T29 l1 x13_1).f1) ((rd_T29 l1 x13_1).f2) ((rd_T29 l1 x13_1).f3) true _ ?side1 ?side2 ?side3 ?side4 A8.out).mono ?_
         (case side1 => exact cA (Kd.C_below HR700_0.out HB.out))
         (case side2 => exact HC700_0.out)
         (case side3 => exact cA (Kd.C_below HR701_0.out HB.out))
         (case side4 => exact HC701_0.out)
         rintro e w11 ⟨rfl, hb⟩
         refine ⟨_, rfl, ?_⟩
         replace HB := aM (below_step (bw HB) hb)
         (try clear hb)
         (try clear hb2)
         (try clear hk)
         (try clear hi)
         refine hK.out _ _ ⟨(cB HB hw700_0), (cB HB hw700_1), (cB HB hw700_2), (cB HB hw700_3), (cB HB hw701_0), (cB HB hw701_1), (cB HB hw701_2), (cB HB hw701_3)⟩ (fun hHeld => ?_)
         clear hK K
         refine norm_ (a' := ?_) ?_ ?_
         rotate_left
         ·show Act.put _ (some 24) _ = _
          simp only [u6_]
          rfl
         refine (pu 9 (some 25) 1023 ?_ ?_ HT_ ?_ ?_ ?_ ?_)
         all_goals first | (intro w'; go_simp; with_reducible rfl) | (simp only [u6_]; rfl) | rfl | skip
         refine done_ (done_of HT_.out (by kernel_rfl)) ?_
         try go_wp2
         go_roundg k1
         case measure => have := HK1.out; omega
         case rel => exact ⟨(wrap64 (x13_1 + 1)), rs_, H', ⟨by have := HK1.out; omega⟩, ⟨(bw HB)⟩⟩
        ·replace c9 := Bool.eq_false_iff.mpr c9
         subst c9
         have H1 : (some false) = some r := by rw [if_neg (show ¬ (false = true) by decide)] at H; exact H
         clear H
         have H := H1
         clear H1
         obtain rfl := Option.some.inj H
         try go_wp2
         replace HB := aM (below_drew1 HB.out)
         have p700 : 0 ≤ (x13_1 : Int) := of_decide_eq_true as_
         have q700 : x13_1 < (l0.length : Int) := of_decide_eq_true as_
         obtain ⟨ad700, A700_0, c700_0, e700, hx700_0, hx700_1, hx700_2, hx700_3, hl700_0, hi700_0⟩ := at_T29 HR0.out x13_1 p700 q700
         have hw700_3 := hx700_3
         have hw700_2 := hx700_2
         have hw700_1 := hx700_1
         have hw700_0 := hx700_0
         cases e700
         replace hx700_0 := cb HB hx700_0
         replace hx700_1 := cb HB hx700_1
         replace hx700_2 := cb HB hx700_2
         replace hx700_3 := cb HB hx700_3
         have HR700_0 := aM hi700_0
         have HC700_0 := aM hl700_0
         clear hi700_0 hl700_0
         replace p700 := eq_true p700
         replace q700 := eq_true q700
         have p701 : 0 ≤ (x13_1 : Int) := of_decide_eq_true as_
         have q701 : x13_1 < (l1.length : Int) := of_decide_eq_true as_
         obtain ⟨ad701, A701_0, c701_0, e701, hx701_0, hx701_1, hx701_2, hx701_3, hl701_0, hi701_0⟩ := at_T29 HR1.out x13_1 p701 q701
         have hw701_3 := hx701_3
         have hw701_2 := hx701_2
         have hw701_1 := hx701_1
         have hw701_0 := hx701_0
         cases e701
         replace hx701_0 := cb HB hx701_0
         replace hx701_1 := cb HB hx701_1
         replace hx701_2 := cb HB hx701_2
         replace hx701_3 := cb HB hx701_3
         have HR701_0 := aM hi701_0
         have HC701_0 := aM hl701_0
         clear hi701_0 hl701_0
         replace p701 := eq_true p701
         replace q701 := eq_true q701
         refine start_ (n := 10) (S := fun w' => w'.cell? (ad700.add ((x13_1).toNat * 4)) = some (.slice A700_0 ((rd_T29 l0 x13_1).f0).length c700_0) ∧ w'.cell? ⟨(ad700.add ((x13_1).toNat * 4)).block, (ad700.add ((x13_1).toNat * 4)).off + 1, none⟩ = some (.int .i64 ((rd_T29 l0 x13_1).f1)) ∧ w'.cell? ⟨(ad700.add ((x13_1).toNat * 4)).block, (ad700.add ((x13_1).toNat * 4)).off + 2, none⟩ = some (.int .i64 ((rd_T29 l0 x13_1).f2)) ∧ w'.cell? ⟨(ad700.add ((x13_1).toNat * 4)).block, (ad700.add ((x13_1).toNat * 4)).off + 3, none⟩ = some (.string ((rd_T29 l0 x13_1).f3)) ∧ w'.cell? (ad701.add ((x13_1).toNat * 4)) = some (.slice A701_0 ((rd_T29 l1 x13_1).f0).length c701_0) ∧ w'.cell? ⟨(ad701.add ((x13_1).toNat * 4)).block, (ad701.add ((x13_1).toNat * 4)).off + 1, none⟩ = some (.int .i64 ((rd_T29 l1 x13_1).f1)) ∧ w'.cell? ⟨(ad701.add ((x13_1).toNat * 4)).block, (ad701.add ((x13_1).toNat * 4)).off + 2, none⟩ = some (.int .i64 ((rd_T29 l1 x13_1).f2)) ∧ w'.cell? ⟨(ad701.add ((x13_1).toNat * 4)).block, (ad701.add ((x13_1).toNat * 4)).off + 3, none⟩ = some (.string ((rd_T29 l1 x13_1).f3))) (ds := []) (bz 10 0) (by kernel_rfl) rfl (by kernel_rfl) ⟨(cB HB hw700_0), (cB HB hw700_1), (cB HB hw700_2), (cB HB hw700_3), (cB HB hw701_0), (cB HB hw701_1), (cB HB hw701_2), (cB HB hw701_3)⟩ (fun hHeld => ?_); refine with_tabW impl_sameAlarms.tab6 impl_sameAlarms.bits6 (fun HT_ HW_ => ?_)
         generalize wr.drew = w12 at HB HR700_0 HR701_0 hx700_0 hx700_1 hx700_2 hx700_3 hx701_0 hx701_1 hx701_2 hx701_3 hHeld ⊢
         refine (pu 0 (some 16) 1 ?_ ?_ HT_ ?_ ?_ ?_ (pu 1 (some 17) 3 ?_ ?_ HT_ ?_ ?_ ?_ (pu 2 (some 18) 7 ?_ ?_ HT_ ?_ ?_ ?_ (pu 4 (some 20) 23 ?_ ?_ HT_ ?_ ?_ ?_ (pu 5 (some 21) 55 ?_ ?_ HT_ ?_ ?_ ?_ (pu 6 (some 22) 119 ?_ ?_ HT_ ?_ ?_ ?_ (tk 3 (some 19) 127 ?_ ?_ HT_ HW_ hHeld ?_ ?_ ?_ (tk 7 (some 23) 255 ?_ ?_ HT_ HW_ hHeld ?_ ?_ ?_ ?_))))))))
         all_goals first | (rintro w' ⟨s0, s1, s2, s3, s4, s5, s6, s7⟩; go_simp; with_reducible rfl) | (intro w'; go_simp; with_reducible rfl) | (simp only [u6_]; rfl) | rfl | skip
         refine one_ (i := 8) (N := some 24) (bz 10 511) rfl rfl (one_of HT_.out (by kernel_rfl)) (by decide) (fun K hK => ?_)
         refine goes_ Try.func21 (by kernel_rfl) rfl #[.agg #[.slice A700_0 ((rd_T29 l0 x13_1).f0).length c700_0, .int .i64 ((rd_T29 l0 x13_1).f1), .int .i64 ((rd_T29 l0 x13_1).f2), .string ((rd_T29 l0 x13_1).f3)], .agg #[.slice A701_0 ((rd_T29 l1 x13_1).f0).length c701_0, .int .i64 ((rd_T29 l1 x13_1).f1), .int .i64 ((rd_T29 l1 x13_1).f2), .string ((rd_T29 l1 x13_1).f3)]] (by rfl) rfl rfl mp ?_
         with_reducible refine (impl_SameAlarm.calls k1 _ _ ((rd_T29 l0 x13_1).f0) ((rd_T29 l0 x13_1).f1) ((rd_T29 l0 x13_1).f2) ((rd_T29 l0 x13_1).f3) _ _ ((rd_T29 l1 x13_1).f0) ((rd_T29 l1 x13_1).f1) ((rd_T29 l1 x13_1).f2) ((rd_T29 l1 x13_1).f3) false _ ?side1 ?side2 ?side3 ?side4 A8.out).mono ?_
         (case side1 => exact cA (Kd.C_below HR700_0.out HB.out))
         (case side2 => exact HC700_0.out)
         (case side3 => exact cA (Kd.C_below HR701_0.out HB.out))
         (case side4 => exact HC701_0.out)
         rintro e w13 ⟨rfl, hb⟩
         refine ⟨_, rfl, ?_⟩
         replace HB := aM (below_step (bw HB) hb)
         (try clear hb)
         (try clear hb2)
         (try clear hk)
         (try clear hi)
         refine hK.out _ _ ⟨(cB HB hw700_0), (cB HB hw700_1), (cB HB hw700_2), (cB HB hw700_3), (cB HB hw701_0), (cB HB hw701_1), (cB HB hw701_2), (cB HB hw701_3)⟩ (fun hHeld => ?_)
         clear hK K
         refine norm_ (a' := ?_) ?_ ?_
         rotate_left
         ·show Act.put _ (some 24) _ = _
          simp only [u6_]
          rfl
         refine (pu 9 (some 25) 1023 ?_ ?_ HT_ ?_ ?_ ?_ ?_)
         all_goals first | (intro w'; go_simp; with_reducible rfl) | (simp only [u6_]; rfl) | rfl | skip
         refine done_ (done_of HT_.out (by kernel_rfl)) ?_
         try go_wp2
         go_ret
         exact ⟨er, (bw HB)⟩
       ·rw [if_neg c7] at H
        exact absurd H (by simp)
      ·rw [if_neg c6] at H
       exact absurd H (by simp)
     ·rw [if_neg c5] at H
      exact absurd H (by simp)
    ·rw [if_neg c4] at H; have c4b0 : decide (x13_1 < (l0.length : Int)) = false := decide_eq_false c4; clear c4
     obtain rfl := Option.some.inj H
     go_wp2
     go_ret
     exact ⟨er, (bw HB)⟩
 ·rw [if_neg c3] at H
  have c3b0 : ((l0.length : Int) == (l1.length : Int)) = false := beq_eq_false_iff_ne.mpr c3
  have c3b1 : ((l0.length : Int) != (l1.length : Int)) = true := bne_iff_ne.mpr c3
  have c3b2 : (l0.length == l1.length) = false := by first | simpa using c3 | (simp at c3 ⊢; omega)
  obtain rfl := Option.some.inj H
  go_enter Try.func37, Try.ntmps37
  go_wp2
  go_ret
  exact ⟨er, (bw HB)⟩

/-! ### impl_SameChain: function 14 -/
def impl_SameChain.f (k : Nat) (a0_0 : Int) (l0_1 : List (S29)) (a1_0 : Int) (l1_1 : List (S29)) : Option (Bool) := if a0_0 = a1_0 then ((impl_sameAlarms.f k l0_1 l1_1).bind fun t705 => (some t705)) else (some false)
theorem impl_SameChain.calls (k : Nat) (a0_0 : Int) (A0_1 : Option Addr) (c0_1 : Nat) (l0_1 : List (S29)) (a1_0 : Int) (A1_1 : Option Addr) (c1_1 : Nat) (l1_1 : List (S29)) (r : Bool) (w : World) (hr0_1 : Kd.C k29 w A0_1 l0_1.length l0_1) (hc0_1 : l0_1.length ≤ c0_1) (hr1_1 : Kd.C k29 w A1_1 l1_1.length l1_1) (hc1_1 : l1_1.length ≤ c1_1) (h : impl_SameChain.f k a0_0 l0_1 a1_0 l1_1 = some r) :
  Calls Try.prog 14 #[.agg #[.int .i64 a0_0, .slice A0_1 l0_1.length c0_1], .agg #[.int .i64 a1_0, .slice A1_1 l1_1.length c1_1]] w fun e w' => e = .returned (.bool r) ∧ Below w.heap.size w w' := by
 have hu26 := Try.underlying26
 have HR0_1 := aM hr0_1
 have HC0_1 := aM hc0_1
 clear hr0_1 hc0_1
 have HR1_1 := aM hr1_1
 have HC1_1 := aM hc1_1
 clear hr1_1 hc1_1
 have HB := aM (Below.refl w.heap.size w)
 have H : (if a0_0 = a1_0 then ((impl_sameAlarms.f k l0_1 l1_1).bind fun t705 => (some t705)) else (some false)) = some r := h
 clear h
 by_cases c3 : a0_0 = a1_0
 ·rw [if_pos c3] at H
  have c3b0 : (a0_0 == a1_0) = true := beq_iff_eq.mpr c3
  have c3b1 : (a0_0 != a1_0) = false := bne_eq_false_iff_eq.mpr c3
  clear c3; replace H := bs_ H; obtain ⟨t705, A40, H⟩ := H; try dsimp only at H
  have A4 := aM A40
  clear A40
  obtain rfl := Option.some.inj H
  go_enter Try.func14, Try.ntmps14
  go_wp2_with (first | (refine be_ 2 #[.int .i64 a0_0, .slice A0_1 l0_1.length c0_1] 26 ?_; intro gb703 hg w5 hbox hb; have BK703 := aM (hbox); have GW703 := gw hg (bw HB); have GE703 := gw hg (bw HB); replace HB := aM (below_step (bw HB) hb); clear hb hbox hg) | (refine be_ 3 #[.int .i64 a1_0, .slice A1_1 l1_1.length c1_1] 26 ?_; intro gb704 hg w6 hbox hb; have BK704 := aM (hbox); have GW704 := gw hg (bw HB); have GE704 := gw hg (bw HB); replace HB := aM (below_step (bw HB) hb); have NB703_704 := nb1 hg BK703; have NB704_703 := nb2 hg BK703; replace BK703 := bb BK703 hb; clear hb hbox hg; have hnb7 := NB703_704.out; have hnc7 := NB704_703.out; obtain ⟨hcz8_0, hcz8_1⟩ := zc2 BK703; have hfz8_0 := zf BK703; obtain ⟨hcz9_0, hcz9_1⟩ := zc2 BK704; have hfz9_0 := zf BK704) | (go_at_call 37; (with_reducible refine (impl_sameAlarms.calls k _ _ l0_1 _ _ l1_1 t705 _ ?side1 ?side2 ?side3 ?side4 A4.out).mono ?_); (case side1 => exact cA (Kd.C_below HR0_1.out HB.out)); (case side2 => exact HC0_1.out); (case side3 => exact cA (Kd.C_below HR1_1.out HB.out)); (case side4 => exact HC1_1.out); rintro e w10 ⟨rfl, hb⟩; replace BK703 := bb BK703 hb; replace BK704 := bb BK704 hb; replace HB := aM (below_step (bw HB) hb); (try clear hb); (try clear hb2); (try clear hk); (try clear hi)))
  go_ret
  exact ⟨er, (bw HB)⟩
 ·rw [if_neg c3] at H
  have c3b0 : (a0_0 == a1_0) = false := beq_eq_false_iff_ne.mpr c3
  have c3b1 : (a0_0 != a1_0) = true := bne_iff_ne.mpr c3
  obtain rfl := Option.some.inj H
  go_enter Try.func14, Try.ntmps14
  go_wp2_with (first | (refine be_ 2 #[.int .i64 a0_0, .slice A0_1 l0_1.length c0_1] 26 ?_; intro gb703 hg w11 hbox hb; have BK703 := aM (hbox); have GW703 := gw hg (bw HB); have GE703 := gw hg (bw HB); replace HB := aM (below_step (bw HB) hb); clear hb hbox hg) | (refine be_ 3 #[.int .i64 a1_0, .slice A1_1 l1_1.length c1_1] 26 ?_; intro gb704 hg w12 hbox hb; have BK704 := aM (hbox); have GW704 := gw hg (bw HB); have GE704 := gw hg (bw HB); replace HB := aM (below_step (bw HB) hb); have NB703_704 := nb1 hg BK703; have NB704_703 := nb2 hg BK703; replace BK703 := bb BK703 hb; clear hb hbox hg; have hnb13 := NB703_704.out; have hnc13 := NB704_703.out; obtain ⟨hcz14_0, hcz14_1⟩ := zc2 BK703; have hfz14_0 := zf BK703; obtain ⟨hcz15_0, hcz15_1⟩ := zc2 BK704; have hfz15_0 := zf BK704))
  go_ret
  exact ⟨er, (bw HB)⟩

/-! ### impl_PlainOk: function 60 -/
def impl_PlainOk.l0 : Nat → ByteArray → Int → Option (Bool)
 | 0, _, _ => none
 | k + 1, x0, x3 => if x3 < (x0.size : Int) then (if 0 ≤ x3 then (if (bt x0 x3) < 32 then (some false) else (if (bt x0 x3) > 126 then (some false) else (if (bt x0 x3) = 34 then (some false) else (if (bt x0 x3) = 92 then (some false) else (impl_PlainOk.l0 k x0 (wrap64 (x3 + 1))))))) else (none)) else (some true)
def impl_PlainOk.f (k : Nat) (a0 : ByteArray) : Option (Bool) := if (a0.size : Int) > 12 then (some false) else (impl_PlainOk.l0 k a0 0)
theorem impl_PlainOk.calls (k : Nat) (a0 : ByteArray) (r : Bool) (w : World) (h : impl_PlainOk.f k a0 = some r) :
  Calls Try.prog 60 #[.string a0] w fun e w' => e = .returned (.bool r) ∧ Drawn0 w w' := by
 have H : (if (a0.size : Int) > 12 then (some false) else (impl_PlainOk.l0 k a0 0)) = some r := h
 clear h
 by_cases c2 : (a0.size : Int) > 12
 ·rw [if_pos c2] at H; have c2b0 : decide (12 < (a0.size : Int)) = true := decide_eq_true c2
  have c2b1 : decide (12 < a0.size) = true := decide_eq_true (by omega)
  clear c2
  obtain rfl := Option.some.inj H
  go_enter Try.func60, Try.ntmps60
  go_wp2
  go_ret
  exact ⟨rs_, by repeat (first | exact Drawn0.refl _ | apply Drawn0.step)⟩
 ·rw [if_neg c2] at H; have c2b0 : decide (12 < (a0.size : Int)) = false := decide_eq_false c2
  have c2b1 : decide (12 < a0.size) = false := decide_eq_false (by omega)
  clear c2
  have H' := aM H
  clear H
  go_enter Try.func60, Try.ntmps60
  go_wp2
  go_loopg [3] k (fun kq v3 w' => ∃ (x3_1 : Int), v3 = .int .i64 x3_1 ∧ Aside0 (impl_PlainOk.l0 kq a0 x3_1 = some r) ∧ Aside0 (kq ≤ k) ∧ Drawn0 w w')
  case atStart => exact ⟨(0), rs_, H', ⟨Nat.le_refl _⟩, by repeat (first | exact Drawn0.refl _ | apply Drawn0.step)⟩
  case round =>
   clear H'
   try clear c2
   try clear c2b0
   try clear c2b1
   try clear p2
   obtain ⟨x3_1, rfl, HA, HK1, ⟨m1, rfl⟩⟩ := hrel
   cases gk with
   | zero => exact absurd HA.out (by simp [impl_PlainOk.l0])
   | succ k1 =>
    have H := HA.out
    clear HA
    simp only [impl_PlainOk.l0] at H
    by_cases c3 : x3_1 < (a0.size : Int)
    ·rw [if_pos c3] at H; have c3b0 : decide (x3_1 < (a0.size : Int)) = true := decide_eq_true c3; clear c3
     by_cases c4 : 0 ≤ x3_1
     ·rw [if_pos c4] at H; have c4b0 : decide (0 ≤ x3_1) = true := decide_eq_true c4; clear c4
      by_cases c6 : (bt a0 x3_1) < 32
      ·rw [if_pos c6] at H; have c6b0 : decide ((bt a0 x3_1) < 32) = true := decide_eq_true c6; clear c6
       obtain rfl := Option.some.inj H
       have p5 : 0 ≤ (x3_1 : Int) := of_decide_eq_true as_
       have q5 : x3_1 < (a0.size : Int) := of_decide_eq_true as_
       have hx5 := bt_at a0 x3_1
       replace p5 := eq_true p5
       replace q5 := eq_true q5
       go_wp2
       go_ret
       exact ⟨rs_, by repeat (first | exact Drawn0.refl _ | apply Drawn0.step)⟩
      ·rw [if_neg c6] at H; have c6b0 : decide ((bt a0 x3_1) < 32) = false := decide_eq_false c6; clear c6
       by_cases c7 : (bt a0 x3_1) > 126
       ·rw [if_pos c7] at H; have c7b0 : decide (126 < (bt a0 x3_1)) = true := decide_eq_true c7; clear c7
        obtain rfl := Option.some.inj H
        have p5 : 0 ≤ (x3_1 : Int) := of_decide_eq_true as_
        have q5 : x3_1 < (a0.size : Int) := of_decide_eq_true as_
        have hx5 := bt_at a0 x3_1
        replace p5 := eq_true p5
        replace q5 := eq_true q5
        go_wp2
        go_ret
        exact ⟨rs_, by repeat (first | exact Drawn0.refl _ | apply Drawn0.step)⟩
       ·rw [if_neg c7] at H; have c7b0 : decide (126 < (bt a0 x3_1)) = false := decide_eq_false c7; clear c7
        by_cases c8 : (bt a0 x3_1) = 34
        ·rw [if_pos c8] at H
         have c8b0 : ((bt a0 x3_1) == 34) = true := beq_iff_eq.mpr c8
         have c8b1 : ((bt a0 x3_1) != 34) = false := bne_eq_false_iff_eq.mpr c8
         clear c8
         obtain rfl := Option.some.inj H
         have p5 : 0 ≤ (x3_1 : Int) := of_decide_eq_true as_
         have q5 : x3_1 < (a0.size : Int) := of_decide_eq_true as_
         have hx5 := bt_at a0 x3_1
         replace p5 := eq_true p5
         replace q5 := eq_true q5
         go_wp2
         go_ret
         exact ⟨rs_, by repeat (first | exact Drawn0.refl _ | apply Drawn0.step)⟩
        ·rw [if_neg c8] at H
         have c8b0 : ((bt a0 x3_1) == 34) = false := beq_eq_false_iff_ne.mpr c8
         have c8b1 : ((bt a0 x3_1) != 34) = true := bne_iff_ne.mpr c8
         by_cases c9 : (bt a0 x3_1) = 92
         ·rw [if_pos c9] at H
          have c9b0 : ((bt a0 x3_1) == 92) = true := beq_iff_eq.mpr c9
          have c9b1 : ((bt a0 x3_1) != 92) = false := bne_eq_false_iff_eq.mpr c9
          clear c9
          obtain rfl := Option.some.inj H
          have p5 : 0 ≤ (x3_1 : Int) := of_decide_eq_true as_
          have q5 : x3_1 < (a0.size : Int) := of_decide_eq_true as_
          have hx5 := bt_at a0 x3_1
          replace p5 := eq_true p5
          replace q5 := eq_true q5
          go_wp2
          go_ret
          exact ⟨rs_, by repeat (first | exact Drawn0.refl _ | apply Drawn0.step)⟩
         ·rw [if_neg c9] at H
          have c9b0 : ((bt a0 x3_1) == 92) = false := beq_eq_false_iff_ne.mpr c9
          have c9b1 : ((bt a0 x3_1) != 92) = true := bne_iff_ne.mpr c9
          have H' := aM H
          clear H
          have p5 : 0 ≤ (x3_1 : Int) := of_decide_eq_true as_
          have q5 : x3_1 < (a0.size : Int) := of_decide_eq_true as_
          have hx5 := bt_at a0 x3_1
          replace p5 := eq_true p5
          replace q5 := eq_true q5
          go_wp2
          go_roundg k1
          case measure => have := HK1.out; omega
          case rel => exact ⟨(wrap64 (x3_1 + 1)), rs_, H', ⟨by have := HK1.out; omega⟩, by repeat (first | exact Drawn0.refl _ | apply Drawn0.step)⟩
     ·rw [if_neg c4] at H
      exact absurd H (by simp)
    ·rw [if_neg c3] at H; have c3b0 : decide (x3_1 < (a0.size : Int)) = false := decide_eq_false c3; clear c3
     obtain rfl := Option.some.inj H
     go_wp2
     go_ret
     exact ⟨rs_, by repeat (first | exact Drawn0.refl _ | apply Drawn0.step)⟩

/-! ### impl_in: function 59 -/
def impl_in.f (a0 : Int) (a1 : Int) (a2 : Int) : Option (Bool) := if a0 ≥ a1 then (some (decide (a0 ≤ a2))) else (some false)
theorem impl_in.calls (a0 : Int) (a1 : Int) (a2 : Int) (r : Bool) (w : World) (h : impl_in.f a0 a1 a2 = some r) :
  Calls Try.prog 59 #[.int .i64 a0, .int .i64 a1, .int .i64 a2] w fun e w' => e = .returned (.bool r) ∧ Drawn0 w w' := by
 have H : (if a0 ≥ a1 then (some (decide (a0 ≤ a2))) else (some false)) = some r := h
 clear h
 by_cases c4 : a0 ≥ a1
 ·rw [if_pos c4] at H; have c4b0 : decide (a1 ≤ a0) = true := decide_eq_true c4; clear c4
  obtain rfl := Option.some.inj H
  go_enter Try.func59, Try.ntmps59
  go_wp2
  go_ret
  exact ⟨rs_, by repeat (first | exact Drawn0.refl _ | apply Drawn0.step)⟩
 ·rw [if_neg c4] at H; have c4b0 : decide (a1 ≤ a0) = false := decide_eq_false c4; clear c4
  obtain rfl := Option.some.inj H
  go_enter Try.func59, Try.ntmps59
  go_wp2
  go_ret
  exact ⟨rs_, by repeat (first | exact Drawn0.refl _ | apply Drawn0.step)⟩

/-! ### impl_NameOk: function 78 -/
def impl_NameOk.l0 : Nat → ByteArray → Int → Option (Bool)
 | 0, _, _ => none
 | k + 1, x0, x3 => if x3 < (x0.size : Int) then (if 0 ≤ x3 then (if (bt x0 x3) < 97 then (some false) else (if (bt x0 x3) > 122 then (some false) else (impl_NameOk.l0 k x0 (wrap64 (x3 + 1))))) else (none)) else (some true)
def impl_NameOk.f (k : Nat) (a0 : ByteArray) : Option (Bool) := (impl_in.f (a0.size : Int) 1 8).bind fun t706 => (if t706 = true then (impl_NameOk.l0 k a0 0) else (some false))
theorem impl_NameOk.calls (k : Nat) (a0 : ByteArray) (r : Bool) (w : World) (h : impl_NameOk.f k a0 = some r) :
  Calls Try.prog 78 #[.string a0] w fun e w' => e = .returned (.bool r) ∧ Drawn0 w w' := by
 have H : ((impl_in.f (a0.size : Int) 1 8).bind fun t706 => (if t706 = true then (impl_NameOk.l0 k a0 0) else (some false))) = some r := h
 clear h; replace H := bs_ H; obtain ⟨t706, A20, H⟩ := H; try dsimp only at H
 have A2 := aM A20
 clear A20
 by_cases c3 : t706 = true
 ·subst c3
  have H1 : (impl_NameOk.l0 k a0 0) = some r := by rw [if_pos rfl] at H; exact H
  clear H
  have H := H1
  clear H1
  have H' := aM H
  clear H
  go_enter Try.func78, Try.ntmps78
  go_wp2_with (first | (refine gl_ (some 6) Try.func59 #[.int .i64 (a0.size : Int), .int .i64 1, .int .i64 8] ?_; (with_reducible refine (impl_in.calls (a0.size : Int) 1 8 true _ A2.out).mono ?_); rintro e w' ⟨rfl, ⟨nd, rfl⟩⟩; refine ⟨_, rfl, ?_⟩))
  go_loopg [3] k (fun kq v3 w' => ∃ (x3_1 : Int), v3 = .int .i64 x3_1 ∧ Aside0 (impl_NameOk.l0 kq a0 x3_1 = some r) ∧ Aside0 (kq ≤ k) ∧ Drawn0 w w')
  case atStart => exact ⟨(0), rs_, H', ⟨Nat.le_refl _⟩, by repeat (first | exact Drawn0.refl _ | apply Drawn0.step)⟩
  case round =>
   clear H'
   try clear p2
   try clear c3
   obtain ⟨x3_1, rfl, HA, HK1, ⟨m1, rfl⟩⟩ := hrel
   cases gk with
   | zero => exact absurd HA.out (by simp [impl_NameOk.l0])
   | succ k1 =>
    have H := HA.out
    clear HA
    simp only [impl_NameOk.l0] at H
    by_cases c4 : x3_1 < (a0.size : Int)
    ·rw [if_pos c4] at H; have c4b0 : decide (x3_1 < (a0.size : Int)) = true := decide_eq_true c4; clear c4
     by_cases c5 : 0 ≤ x3_1
     ·rw [if_pos c5] at H; have c5b0 : decide (0 ≤ x3_1) = true := decide_eq_true c5; clear c5
      by_cases c7 : (bt a0 x3_1) < 97
      ·rw [if_pos c7] at H; have c7b0 : decide ((bt a0 x3_1) < 97) = true := decide_eq_true c7; clear c7
       obtain rfl := Option.some.inj H
       have p6 : 0 ≤ (x3_1 : Int) := of_decide_eq_true as_
       have q6 : x3_1 < (a0.size : Int) := of_decide_eq_true as_
       have hx6 := bt_at a0 x3_1
       replace p6 := eq_true p6
       replace q6 := eq_true q6
       go_wp2
       go_ret
       exact ⟨rs_, by repeat (first | exact Drawn0.refl _ | apply Drawn0.step)⟩
      ·rw [if_neg c7] at H; have c7b0 : decide ((bt a0 x3_1) < 97) = false := decide_eq_false c7; clear c7
       by_cases c9 : (bt a0 x3_1) > 122
       ·rw [if_pos c9] at H; have c9b0 : decide (122 < (bt a0 x3_1)) = true := decide_eq_true c9; clear c9
        obtain rfl := Option.some.inj H
        have p6 : 0 ≤ (x3_1 : Int) := of_decide_eq_true as_
        have q6 : x3_1 < (a0.size : Int) := of_decide_eq_true as_
        have hx6 := bt_at a0 x3_1
        replace p6 := eq_true p6
        replace q6 := eq_true q6
        have p8 : 0 ≤ (x3_1 : Int) := of_decide_eq_true as_
        have q8 : x3_1 < (a0.size : Int) := of_decide_eq_true as_
        have hx8 := bt_at a0 x3_1
        replace p8 := eq_true p8
        replace q8 := eq_true q8
        go_wp2
        go_ret
        exact ⟨rs_, by repeat (first | exact Drawn0.refl _ | apply Drawn0.step)⟩
       ·rw [if_neg c9] at H; have c9b0 : decide (122 < (bt a0 x3_1)) = false := decide_eq_false c9; clear c9
        have H' := aM H
        clear H
        have p6 : 0 ≤ (x3_1 : Int) := of_decide_eq_true as_
        have q6 : x3_1 < (a0.size : Int) := of_decide_eq_true as_
        have hx6 := bt_at a0 x3_1
        replace p6 := eq_true p6
        replace q6 := eq_true q6
        have p8 : 0 ≤ (x3_1 : Int) := of_decide_eq_true as_
        have q8 : x3_1 < (a0.size : Int) := of_decide_eq_true as_
        have hx8 := bt_at a0 x3_1
        replace p8 := eq_true p8
        replace q8 := eq_true q8
        go_wp2
        go_roundg k1
        case measure => have := HK1.out; omega
        case rel => exact ⟨(wrap64 (x3_1 + 1)), rs_, H', ⟨by have := HK1.out; omega⟩, by repeat (first | exact Drawn0.refl _ | apply Drawn0.step)⟩
     ·rw [if_neg c5] at H
      exact absurd H (by simp)
    ·rw [if_neg c4] at H; have c4b0 : decide (x3_1 < (a0.size : Int)) = false := decide_eq_false c4; clear c4
     obtain rfl := Option.some.inj H
     go_wp2
     go_ret
     exact ⟨rs_, by repeat (first | exact Drawn0.refl _ | apply Drawn0.step)⟩
 ·replace c3 := Bool.eq_false_iff.mpr c3
  subst c3
  have H1 : (some false) = some r := by rw [if_neg (show ¬ (false = true) by decide)] at H; exact H
  clear H
  have H := H1
  clear H1
  obtain rfl := Option.some.inj H
  go_enter Try.func78, Try.ntmps78
  go_wp2_with (first | (refine gl_ (some 6) Try.func59 #[.int .i64 (a0.size : Int), .int .i64 1, .int .i64 8] ?_; (with_reducible refine (impl_in.calls (a0.size : Int) 1 8 false _ A2.out).mono ?_); rintro e w' ⟨rfl, ⟨nd, rfl⟩⟩; refine ⟨_, rfl, ?_⟩))
  go_ret
  exact ⟨rs_, by repeat (first | exact Drawn0.refl _ | apply Drawn0.step)⟩

/-! ### impl_LabelOk: function 72 -/
def impl_LabelOk.f (k : Nat) (a0_0 : ByteArray) (a0_1 : ByteArray) : Option (Bool) := (impl_NameOk.f k a0_0).bind fun t708 => (if t708 = true then ((impl_PlainOk.f k a0_1).bind fun t709 => (some t709)) else (some false))
theorem impl_LabelOk.calls (k : Nat) (a0_0 : ByteArray) (a0_1 : ByteArray) (r : Bool) (w : World) (h : impl_LabelOk.f k a0_0 a0_1 = some r) :
  Calls Try.prog 72 #[.agg #[.string a0_0, .string a0_1]] w fun e w' => e = .returned (.bool r) ∧ Below w.heap.size w w' := by
 have hu76 := Try.underlying76
 have HB := aM (Below.refl w.heap.size w)
 have H : ((impl_NameOk.f k a0_0).bind fun t708 => (if t708 = true then ((impl_PlainOk.f k a0_1).bind fun t709 => (some t709)) else (some false))) = some r := h
 clear h; replace H := bs_ H; obtain ⟨t708, A20, H⟩ := H; try dsimp only at H
 have A2 := aM A20
 clear A20
 by_cases c3 : t708 = true
 ·subst c3
  have H1 : ((impl_PlainOk.f k a0_1).bind fun t709 => (some t709)) = some r := by rw [if_pos rfl] at H; exact H
  clear H
  have H := H1
  clear H1; replace H := bs_ H; obtain ⟨t709, A40, H⟩ := H; try dsimp only at H
  have A4 := aM A40
  clear A40
  obtain rfl := Option.some.inj H
  go_enter Try.func72, Try.ntmps72
  go_wp2_with (first | (refine be_ 1 #[.string a0_0, .string a0_1] 76 ?_; intro gb707 hg w5 hbox hb; have BK707 := aM (hbox); have GW707 := gw hg (bw HB); have GE707 := gw hg (bw HB); replace HB := aM (below_step (bw HB) hb); clear hb hbox hg; obtain ⟨hcz6_0, hcz6_1⟩ := zc2 BK707; have hfz6_0 := zf BK707) | (refine gl_ (some 5) Try.func78 #[.string a0_0] ?_; (with_reducible refine (impl_NameOk.calls k a0_0 true _ A2.out).mono ?_); rintro e w' ⟨rfl, ⟨nd, rfl⟩⟩; refine ⟨_, rfl, ?_⟩) | (go_at_call 60; (with_reducible refine (impl_PlainOk.calls k a0_1 t709 _ A4.out).mono ?_); rintro e w' ⟨rfl, ⟨nd, rfl⟩⟩))
  go_ret
  exact ⟨er, (bw HB)⟩
 ·replace c3 := Bool.eq_false_iff.mpr c3
  subst c3
  have H1 : (some false) = some r := by rw [if_neg (show ¬ (false = true) by decide)] at H; exact H
  clear H
  have H := H1
  clear H1
  obtain rfl := Option.some.inj H
  go_enter Try.func72, Try.ntmps72
  go_wp2_with (first | (refine be_ 1 #[.string a0_0, .string a0_1] 76 ?_; intro gb707 hg w7 hbox hb; have BK707 := aM (hbox); have GW707 := gw hg (bw HB); have GE707 := gw hg (bw HB); replace HB := aM (below_step (bw HB) hb); clear hb hbox hg; obtain ⟨hcz8_0, hcz8_1⟩ := zc2 BK707; have hfz8_0 := zf BK707) | (refine gl_ (some 5) Try.func78 #[.string a0_0] ?_; (with_reducible refine (impl_NameOk.calls k a0_0 false _ A2.out).mono ?_); rintro e w' ⟨rfl, ⟨nd, rfl⟩⟩; refine ⟨_, rfl, ?_⟩))
  go_ret
  exact ⟨er, (bw HB)⟩

end Go.Proofs.Ytdhignbneeapiaa.PFnChains
