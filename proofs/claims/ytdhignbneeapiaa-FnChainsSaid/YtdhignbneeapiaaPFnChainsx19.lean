/- What the Go functions that FnChains reaches compute, as Lean functions, and that the machine's calls do so; no conditions. -/
import Derived.Test.YtdhignbneeapiaaPFnChainsx0
import Derived.Test.YtdhignbneeapiaaPFnChainsx2
namespace Go.Proofs.Ytdhignbneeapiaa.PFnChains
open Go.Proofs.Ytdhignbneeapiaa
open Go.RowKit Go.Proofs.YtdhignbneeapiaaW.PrintWords Go.Proofs.YtdhignbneeapiaaW.PrintLast Go.Proofs.YtdhignbneeapiaaW.PrintMore
attribute [local go_sem] max2_int min2_int max_two min_two max_three min_three max_four min_four   -- for this text's walks alone
set_option linter.unusedVariables false
set_option linter.unusedSimpArgs false
set_option maxHeartbeats 8000000
set_option maxRecDepth 100000

/-! ### spec_SameAlarm: function 68 -/
def spec_SameAlarm.f (k : Nat) (l0_0 : List (S76)) (a0_1 : Int) (a0_2 : Int) (a0_3 : ByteArray) (l1_0 : List (S76)) (a1_1 : Int) (a1_2 : Int) (a1_3 : ByteArray) : Option (Bool) := (spec_SameSet.f k l0_0 l1_0).bind fun t756 => (if t756 = true then (if a0_1 = a1_1 then (if a0_2 = a1_2 then (some (a0_3.toList == a1_3.toList)) else (some false)) else (some false)) else (some false))
theorem spec_SameAlarm.calls (k : Nat) (A0_0 : Option Addr) (c0_0 : Nat) (l0_0 : List (S76)) (a0_1 : Int) (a0_2 : Int) (a0_3 : ByteArray) (A1_0 : Option Addr) (c1_0 : Nat) (l1_0 : List (S76)) (a1_1 : Int) (a1_2 : Int) (a1_3 : ByteArray) (r : Bool) (w : World) (hr0_0 : Kd.C k76 w A0_0 l0_0.length l0_0) (hc0_0 : l0_0.length ≤ c0_0) (hr1_0 : Kd.C k76 w A1_0 l1_0.length l1_0) (hc1_0 : l1_0.length ≤ c1_0) (h : spec_SameAlarm.f k l0_0 a0_1 a0_2 a0_3 l1_0 a1_1 a1_2 a1_3 = some r) :
  Calls Try.prog 68 #[.agg #[.slice A0_0 l0_0.length c0_0, .int .i64 a0_1, .int .i64 a0_2, .string a0_3], .agg #[.slice A1_0 l1_0.length c1_0, .int .i64 a1_1, .int .i64 a1_2, .string a1_3]] w fun e w' => e = .returned (.bool r) ∧ Below w.heap.size w w' := by
 have hu29 := Try.underlying29
 have HR0_0 := aM hr0_0
 have HC0_0 := aM hc0_0
 clear hr0_0 hc0_0
 have HR1_0 := aM hr1_0
 have HC1_0 := aM hc1_0
 clear hr1_0 hc1_0
 have HB := aM (Below.refl w.heap.size w)
 have H : ((spec_SameSet.f k l0_0 l1_0).bind fun t756 => (if t756 = true then (if a0_1 = a1_1 then (if a0_2 = a1_2 then (some (a0_3.toList == a1_3.toList)) else (some false)) else (some false)) else (some false))) = some r := h
 clear h; replace H := bs_ H; obtain ⟨t756, A30, H⟩ := H; try dsimp only at H
 have A3 := aM A30
 clear A30
 by_cases c4 : t756 = true
 ·subst c4
  have H1 : (if a0_1 = a1_1 then (if a0_2 = a1_2 then (some (a0_3.toList == a1_3.toList)) else (some false)) else (some false)) = some r := by rw [if_pos rfl] at H; exact H
  clear H
  have H := H1
  clear H1
  by_cases c5 : a0_1 = a1_1
  ·rw [if_pos c5] at H
   have c5b0 : (a0_1 == a1_1) = true := beq_iff_eq.mpr c5
   have c5b1 : (a0_1 != a1_1) = false := bne_eq_false_iff_eq.mpr c5
   clear c5
   by_cases c6 : a0_2 = a1_2
   ·rw [if_pos c6] at H
    have c6b0 : (a0_2 == a1_2) = true := beq_iff_eq.mpr c6
    have c6b1 : (a0_2 != a1_2) = false := bne_eq_false_iff_eq.mpr c6
    clear c6
    obtain rfl := Option.some.inj H
    go_enter Try.func68, Try.ntmps68
    go_wp2_with (first | (refine be_ 2 #[.slice A0_0 l0_0.length c0_0, .int .i64 a0_1, .int .i64 a0_2, .string a0_3] 29 ?_; intro gb754 hg w7 hbox hb; have BK754 := aM (hbox); have GW754 := gw hg (bw HB); have GE754 := gw hg (bw HB); replace HB := aM (below_step (bw HB) hb); clear hb hbox hg) | (refine be_ 3 #[.slice A1_0 l1_0.length c1_0, .int .i64 a1_1, .int .i64 a1_2, .string a1_3] 29 ?_; intro gb755 hg w8 hbox hb; have BK755 := aM (hbox); have GW755 := gw hg (bw HB); have GE755 := gw hg (bw HB); replace HB := aM (below_step (bw HB) hb); have NB754_755 := nb1 hg BK754; have NB755_754 := nb2 hg BK754; replace BK754 := bb BK754 hb; clear hb hbox hg; have hnb9 := NB754_755.out; have hnc9 := NB755_754.out; obtain ⟨hcz10_0, hcz10_1, hcz10_2, hcz10_3⟩ := zc4 BK754; have hfz10_0 := zf BK754; obtain ⟨hcz11_0, hcz11_1, hcz11_2, hcz11_3⟩ := zc4 BK755; have hfz11_0 := zf BK755) | (refine gl_ (some 9) Try.func43 #[.slice A0_0 l0_0.length c0_0, .slice A1_0 l1_0.length c1_0] ?_; (with_reducible refine (spec_SameSet.calls k _ _ l0_0 _ _ l1_0 true _ ?side1 ?side2 ?side3 ?side4 A3.out).mono ?_); (case side1 => exact cA (Kd.C_below HR0_0.out HB.out)); (case side2 => exact HC0_0.out); (case side3 => exact cA (Kd.C_below HR1_0.out HB.out)); (case side4 => exact HC1_0.out); rintro e w' ⟨rfl, ⟨nd, rfl⟩⟩; refine ⟨_, rfl, ?_⟩))
    go_ret
    exact ⟨er, (bw HB)⟩
   ·rw [if_neg c6] at H
    have c6b0 : (a0_2 == a1_2) = false := beq_eq_false_iff_ne.mpr c6
    have c6b1 : (a0_2 != a1_2) = true := bne_iff_ne.mpr c6
    obtain rfl := Option.some.inj H
    go_enter Try.func68, Try.ntmps68
    go_wp2_with (first | (refine be_ 2 #[.slice A0_0 l0_0.length c0_0, .int .i64 a0_1, .int .i64 a0_2, .string a0_3] 29 ?_; intro gb754 hg w12 hbox hb; have BK754 := aM (hbox); have GW754 := gw hg (bw HB); have GE754 := gw hg (bw HB); replace HB := aM (below_step (bw HB) hb); clear hb hbox hg) | (refine be_ 3 #[.slice A1_0 l1_0.length c1_0, .int .i64 a1_1, .int .i64 a1_2, .string a1_3] 29 ?_; intro gb755 hg w13 hbox hb; have BK755 := aM (hbox); have GW755 := gw hg (bw HB); have GE755 := gw hg (bw HB); replace HB := aM (below_step (bw HB) hb); have NB754_755 := nb1 hg BK754; have NB755_754 := nb2 hg BK754; replace BK754 := bb BK754 hb; clear hb hbox hg; have hnb14 := NB754_755.out; have hnc14 := NB755_754.out; obtain ⟨hcz15_0, hcz15_1, hcz15_2, hcz15_3⟩ := zc4 BK754; have hfz15_0 := zf BK754; obtain ⟨hcz16_0, hcz16_1, hcz16_2, hcz16_3⟩ := zc4 BK755; have hfz16_0 := zf BK755) | (refine gl_ (some 9) Try.func43 #[.slice A0_0 l0_0.length c0_0, .slice A1_0 l1_0.length c1_0] ?_; (with_reducible refine (spec_SameSet.calls k _ _ l0_0 _ _ l1_0 true _ ?side1 ?side2 ?side3 ?side4 A3.out).mono ?_); (case side1 => exact cA (Kd.C_below HR0_0.out HB.out)); (case side2 => exact HC0_0.out); (case side3 => exact cA (Kd.C_below HR1_0.out HB.out)); (case side4 => exact HC1_0.out); rintro e w' ⟨rfl, ⟨nd, rfl⟩⟩; refine ⟨_, rfl, ?_⟩))
    go_ret
    exact ⟨er, (bw HB)⟩
  ·rw [if_neg c5] at H
   have c5b0 : (a0_1 == a1_1) = false := beq_eq_false_iff_ne.mpr c5
   have c5b1 : (a0_1 != a1_1) = true := bne_iff_ne.mpr c5
   obtain rfl := Option.some.inj H
   go_enter Try.func68, Try.ntmps68
   go_wp2_with (first | (refine be_ 2 #[.slice A0_0 l0_0.length c0_0, .int .i64 a0_1, .int .i64 a0_2, .string a0_3] 29 ?_; intro gb754 hg w17 hbox hb; have BK754 := aM (hbox); have GW754 := gw hg (bw HB); have GE754 := gw hg (bw HB); replace HB := aM (below_step (bw HB) hb); clear hb hbox hg) | (refine be_ 3 #[.slice A1_0 l1_0.length c1_0, .int .i64 a1_1, .int .i64 a1_2, .string a1_3] 29 ?_; intro gb755 hg w18 hbox hb; have BK755 := aM (hbox); have GW755 := gw hg (bw HB); have GE755 := gw hg (bw HB); replace HB := aM (below_step (bw HB) hb); have NB754_755 := nb1 hg BK754; have NB755_754 := nb2 hg BK754; replace BK754 := bb BK754 hb; clear hb hbox hg; have hnb19 := NB754_755.out; have hnc19 := NB755_754.out; obtain ⟨hcz20_0, hcz20_1, hcz20_2, hcz20_3⟩ := zc4 BK754; have hfz20_0 := zf BK754; obtain ⟨hcz21_0, hcz21_1, hcz21_2, hcz21_3⟩ := zc4 BK755; have hfz21_0 := zf BK755) | (refine gl_ (some 9) Try.func43 #[.slice A0_0 l0_0.length c0_0, .slice A1_0 l1_0.length c1_0] ?_; (with_reducible refine (spec_SameSet.calls k _ _ l0_0 _ _ l1_0 true _ ?side1 ?side2 ?side3 ?side4 A3.out).mono ?_); (case side1 => exact cA (Kd.C_below HR0_0.out HB.out)); (case side2 => exact HC0_0.out); (case side3 => exact cA (Kd.C_below HR1_0.out HB.out)); (case side4 => exact HC1_0.out); rintro e w' ⟨rfl, ⟨nd, rfl⟩⟩; refine ⟨_, rfl, ?_⟩))
   go_ret
   exact ⟨er, (bw HB)⟩
 ·replace c4 := Bool.eq_false_iff.mpr c4
  subst c4
  have H1 : (some false) = some r := by rw [if_neg (show ¬ (false = true) by decide)] at H; exact H
  clear H
  have H := H1
  clear H1
  obtain rfl := Option.some.inj H
  go_enter Try.func68, Try.ntmps68
  go_wp2_with (first | (refine be_ 2 #[.slice A0_0 l0_0.length c0_0, .int .i64 a0_1, .int .i64 a0_2, .string a0_3] 29 ?_; intro gb754 hg w22 hbox hb; have BK754 := aM (hbox); have GW754 := gw hg (bw HB); have GE754 := gw hg (bw HB); replace HB := aM (below_step (bw HB) hb); clear hb hbox hg) | (refine be_ 3 #[.slice A1_0 l1_0.length c1_0, .int .i64 a1_1, .int .i64 a1_2, .string a1_3] 29 ?_; intro gb755 hg w23 hbox hb; have BK755 := aM (hbox); have GW755 := gw hg (bw HB); have GE755 := gw hg (bw HB); replace HB := aM (below_step (bw HB) hb); have NB754_755 := nb1 hg BK754; have NB755_754 := nb2 hg BK754; replace BK754 := bb BK754 hb; clear hb hbox hg; have hnb24 := NB754_755.out; have hnc24 := NB755_754.out; obtain ⟨hcz25_0, hcz25_1, hcz25_2, hcz25_3⟩ := zc4 BK754; have hfz25_0 := zf BK754; obtain ⟨hcz26_0, hcz26_1, hcz26_2, hcz26_3⟩ := zc4 BK755; have hfz26_0 := zf BK755) | (refine gl_ (some 9) Try.func43 #[.slice A0_0 l0_0.length c0_0, .slice A1_0 l1_0.length c1_0] ?_; (with_reducible refine (spec_SameSet.calls k _ _ l0_0 _ _ l1_0 false _ ?side1 ?side2 ?side3 ?side4 A3.out).mono ?_); (case side1 => exact cA (Kd.C_below HR0_0.out HB.out)); (case side2 => exact HC0_0.out); (case side3 => exact cA (Kd.C_below HR1_0.out HB.out)); (case side4 => exact HC1_0.out); rintro e w' ⟨rfl, ⟨nd, rfl⟩⟩; refine ⟨_, rfl, ?_⟩))
  go_ret
  exact ⟨er, (bw HB)⟩

/-! ### spec_l4Same: function 44 -/
def spec_l4Same.l0 : Nat → List (S29) → List (S29) → Int → Option (Bool)
 | 0, _, _, _ => none
 | k + 1, x0, x1, x5 => if x5 < (x0.length : Int) then (if 0 ≤ x5 then (if x5 < (x1.length : Int) then ((spec_SameAlarm.f k ((rd_T29 x0 x5).f0) ((rd_T29 x0 x5).f1) ((rd_T29 x0 x5).f2) ((rd_T29 x0 x5).f3) ((rd_T29 x1 x5).f0) ((rd_T29 x1 x5).f1) ((rd_T29 x1 x5).f2) ((rd_T29 x1 x5).f3)).bind fun t759 => (if t759 = true then (spec_l4Same.l0 k x0 x1 (wrap64 (x5 + 1))) else (some false))) else (none)) else (none)) else (some true)
def spec_l4Same.f (k : Nat) (l0 : List (S29)) (l1 : List (S29)) : Option (Bool) := if (l0.length : Int) = (l1.length : Int) then (spec_l4Same.l0 k l0 l1 0) else (some false)
def spec_l4Same.T6 : Bool × List (List Nat × List Nat) := (true, [([], []), ([], []), ([0, 1], [0, 1]), ([2], [2]), ([], []), ([], []), ([4, 5], [4, 5]), ([6], [6]), ([3, 7], [3, 7]), ([8], [8])])
def spec_l4Same.B6 : List Nat := [0, 0, 3, 7, 0, 0, 48, 112, 255, 511]
theorem spec_l4Same.tab6 : rtab .any (opsOf Try.f44 6) = spec_l4Same.T6 := by kernel_rfl
theorem spec_l4Same.bits6 : waitsOk spec_l4Same.T6.2 spec_l4Same.B6 = true := by kernel_rfl
theorem spec_l4Same.calls (k : Nat) (A0 : Option Addr) (c0 : Nat) (l0 : List (S29)) (A1 : Option Addr) (c1 : Nat) (l1 : List (S29)) (r : Bool) (w : World) (hr0 : Kd.C k29 w A0 l0.length l0) (hc0 : l0.length ≤ c0) (hr1 : Kd.C k29 w A1 l1.length l1) (hc1 : l1.length ≤ c1) (h : spec_l4Same.f k l0 l1 = some r) :
  Calls Try.prog 44 #[.slice A0 l0.length c0, .slice A1 l1.length c1] w fun e w' => e = .returned (.bool r) ∧ Below w.heap.size w w' := by
 have hu29 := Try.underlying29
 have HR0 := aM hr0
 have HC0 := aM hc0
 clear hr0 hc0
 have HR1 := aM hr1
 have HC1 := aM hc1
 clear hr1 hc1
 have HB := aM (Below.refl w.heap.size w)
 have H : (if (l0.length : Int) = (l1.length : Int) then (spec_l4Same.l0 k l0 l1 0) else (some false)) = some r := h
 clear h
 by_cases c3 : (l0.length : Int) = (l1.length : Int)
 ·rw [if_pos c3] at H
  have c3b0 : ((l0.length : Int) == (l1.length : Int)) = true := beq_iff_eq.mpr c3
  have c3b1 : ((l0.length : Int) != (l1.length : Int)) = false := bne_eq_false_iff_eq.mpr c3
  have c3b2 : (l0.length == l1.length) = true := by first | simpa using c3 | (simp at c3 ⊢; omega)
  clear c3
  have H' := aM H
  clear H
  go_enter Try.func44, Try.ntmps44
  go_wp2
  go_loopg [5] k (fun kq v5 w' => ∃ (x5_1 : Int), v5 = .int .i64 x5_1 ∧ Aside0 (spec_l4Same.l0 kq l0 l1 x5_1 = some r) ∧ Aside0 (kq ≤ k) ∧ Aside0 (Below w.heap.size w w'))
  case atStart => exact ⟨(0), rs_, H', ⟨Nat.le_refl _⟩, ⟨(bw HB)⟩⟩
  case round =>
   clear H'
   try clear c1
   try clear p2
   try clear c3
   try clear c3b0
   try clear c3b1
   try clear c3b2
   obtain ⟨x5_1, rfl, HA, HK1, HB⟩ := hrel
   cases gk with
   | zero => exact absurd HA.out (by simp [spec_l4Same.l0])
   | succ k1 =>
    have H := HA.out
    clear HA
    simp only [spec_l4Same.l0] at H
    by_cases c4 : x5_1 < (l0.length : Int)
    ·rw [if_pos c4] at H; have c4b0 : decide (x5_1 < (l0.length : Int)) = true := decide_eq_true c4; clear c4
     by_cases c5 : 0 ≤ x5_1
     ·rw [if_pos c5] at H; have c5b0 : decide (0 ≤ x5_1) = true := decide_eq_true c5; clear c5
      by_cases c6 : x5_1 < (l1.length : Int)
      ·rw [if_pos c6] at H; have c6b0 : decide (x5_1 < (l1.length : Int)) = true := decide_eq_true c6; clear c6; replace H := bs_ H; obtain ⟨t759, A70, H⟩ := H; try dsimp only at H
       have A7 := aM A70
       clear A70
       by_cases c8 : t759 = true
       ·subst c8
        have H1 : (spec_l4Same.l0 k1 l0 l1 (wrap64 (x5_1 + 1))) = some r := by rw [if_pos rfl] at H; exact H
        clear H
        have H := H1
        clear H1
        have H' := aM H
        clear H
        try go_wp2
        replace HB := aM (below_drew1 HB.out)
        have p757 : 0 ≤ (x5_1 : Int) := of_decide_eq_true as_
        have q757 : x5_1 < (l0.length : Int) := of_decide_eq_true as_
        obtain ⟨ad757, A757_0, c757_0, e757, hx757_0, hx757_1, hx757_2, hx757_3, hl757_0, hi757_0⟩ := at_T29 HR0.out x5_1 p757 q757
        have hw757_3 := hx757_3
        have hw757_2 := hx757_2
        have hw757_1 := hx757_1
        have hw757_0 := hx757_0
        cases e757
        replace hx757_0 := cb HB hx757_0
        replace hx757_1 := cb HB hx757_1
        replace hx757_2 := cb HB hx757_2
        replace hx757_3 := cb HB hx757_3
        have HR757_0 := aM hi757_0
        have HC757_0 := aM hl757_0
        clear hi757_0 hl757_0
        replace p757 := eq_true p757
        replace q757 := eq_true q757
        have p758 : 0 ≤ (x5_1 : Int) := of_decide_eq_true as_
        have q758 : x5_1 < (l1.length : Int) := of_decide_eq_true as_
        obtain ⟨ad758, A758_0, c758_0, e758, hx758_0, hx758_1, hx758_2, hx758_3, hl758_0, hi758_0⟩ := at_T29 HR1.out x5_1 p758 q758
        have hw758_3 := hx758_3
        have hw758_2 := hx758_2
        have hw758_1 := hx758_1
        have hw758_0 := hx758_0
        cases e758
        replace hx758_0 := cb HB hx758_0
        replace hx758_1 := cb HB hx758_1
        replace hx758_2 := cb HB hx758_2
        replace hx758_3 := cb HB hx758_3
        have HR758_0 := aM hi758_0
        have HC758_0 := aM hl758_0
        clear hi758_0 hl758_0
        replace p758 := eq_true p758
        replace q758 := eq_true q758
        refine start_ (n := 10) (S := fun w' => w'.cell? (ad757.add ((x5_1).toNat * 4)) = some (.slice A757_0 ((rd_T29 l0 x5_1).f0).length c757_0) ∧ w'.cell? ⟨(ad757.add ((x5_1).toNat * 4)).block, (ad757.add ((x5_1).toNat * 4)).off + 1, none⟩ = some (.int .i64 ((rd_T29 l0 x5_1).f1)) ∧ w'.cell? ⟨(ad757.add ((x5_1).toNat * 4)).block, (ad757.add ((x5_1).toNat * 4)).off + 2, none⟩ = some (.int .i64 ((rd_T29 l0 x5_1).f2)) ∧ w'.cell? ⟨(ad757.add ((x5_1).toNat * 4)).block, (ad757.add ((x5_1).toNat * 4)).off + 3, none⟩ = some (.string ((rd_T29 l0 x5_1).f3)) ∧ w'.cell? (ad758.add ((x5_1).toNat * 4)) = some (.slice A758_0 ((rd_T29 l1 x5_1).f0).length c758_0) ∧ w'.cell? ⟨(ad758.add ((x5_1).toNat * 4)).block, (ad758.add ((x5_1).toNat * 4)).off + 1, none⟩ = some (.int .i64 ((rd_T29 l1 x5_1).f1)) ∧ w'.cell? ⟨(ad758.add ((x5_1).toNat * 4)).block, (ad758.add ((x5_1).toNat * 4)).off + 2, none⟩ = some (.int .i64 ((rd_T29 l1 x5_1).f2)) ∧ w'.cell? ⟨(ad758.add ((x5_1).toNat * 4)).block, (ad758.add ((x5_1).toNat * 4)).off + 3, none⟩ = some (.string ((rd_T29 l1 x5_1).f3))) (ds := []) (bz 10 0) (by kernel_rfl) rfl (by kernel_rfl) ⟨(cB HB hw757_0), (cB HB hw757_1), (cB HB hw757_2), (cB HB hw757_3), (cB HB hw758_0), (cB HB hw758_1), (cB HB hw758_2), (cB HB hw758_3)⟩ (fun hHeld => ?_); refine with_tabW spec_l4Same.tab6 spec_l4Same.bits6 (fun HT_ HW_ => ?_)
        generalize wr.drew = w9 at HB HR757_0 HR758_0 hx757_0 hx757_1 hx757_2 hx757_3 hx758_0 hx758_1 hx758_2 hx758_3 hHeld ⊢
        refine (pu 0 (some 17) 1 ?_ ?_ HT_ ?_ ?_ ?_ (pu 1 (some 18) 3 ?_ ?_ HT_ ?_ ?_ ?_ (pu 2 (some 19) 7 ?_ ?_ HT_ ?_ ?_ ?_ (pu 4 (some 21) 23 ?_ ?_ HT_ ?_ ?_ ?_ (pu 5 (some 22) 55 ?_ ?_ HT_ ?_ ?_ ?_ (pu 6 (some 23) 119 ?_ ?_ HT_ ?_ ?_ ?_ (tk 3 (some 20) 127 ?_ ?_ HT_ HW_ hHeld ?_ ?_ ?_ (tk 7 (some 24) 255 ?_ ?_ HT_ HW_ hHeld ?_ ?_ ?_ ?_))))))))
        all_goals first | (rintro w' ⟨s0, s1, s2, s3, s4, s5, s6, s7⟩; go_simp; with_reducible rfl) | (intro w'; go_simp; with_reducible rfl) | (simp only [u6_]; rfl) | rfl | skip
        refine one_ (i := 8) (N := some 25) (bz 10 511) rfl rfl (one_of HT_.out (by kernel_rfl)) (by decide) (fun K hK => ?_)
        refine goes_ Try.func68 (by kernel_rfl) rfl #[.agg #[.slice A757_0 ((rd_T29 l0 x5_1).f0).length c757_0, .int .i64 ((rd_T29 l0 x5_1).f1), .int .i64 ((rd_T29 l0 x5_1).f2), .string ((rd_T29 l0 x5_1).f3)], .agg #[.slice A758_0 ((rd_T29 l1 x5_1).f0).length c758_0, .int .i64 ((rd_T29 l1 x5_1).f1), .int .i64 ((rd_T29 l1 x5_1).f2), .string ((rd_T29 l1 x5_1).f3)]] (by rfl) rfl rfl mp ?_
        with_reducible refine (spec_SameAlarm.calls k1 _ _ ((rd_T29 l0 x5_1).f0) ((rd_T29 l0 x5_1).f1) ((rd_T29 l0 x5_1).f2) ((rd_T29 l0 x5_1).f3) _ _ ((rd_T29 l1 x5_1).f0) ((rd_T29 l1 x5_1).f1) ((rd_T29 l1 x5_1).f2) ((rd_T29 l1 x5_1).f3) true _ ?side1 ?side2 ?side3 ?side4 A7.out).mono ?_
        (case side1 => exact cA (Kd.C_below HR757_0.out HB.out))
        (case side2 => exact HC757_0.out)
        (case side3 => exact cA (Kd.C_below HR758_0.out HB.out))
        (case side4 => exact HC758_0.out)
        rintro e w10 ⟨rfl, hb⟩
        refine ⟨_, rfl, ?_⟩
        replace HB := aM (below_step (bw HB) hb)
        (try clear hb)
        (try clear hb2)
        (try clear hk)
        (try clear hi)
        refine hK.out _ _ ⟨(cB HB hw757_0), (cB HB hw757_1), (cB HB hw757_2), (cB HB hw757_3), (cB HB hw758_0), (cB HB hw758_1), (cB HB hw758_2), (cB HB hw758_3)⟩ (fun hHeld => ?_)
        clear hK K
        refine norm_ (a' := ?_) ?_ ?_
        rotate_left
        ·show Act.put _ (some 25) _ = _
         simp only [u6_]
         rfl
        refine (pu 9 (some 26) 1023 ?_ ?_ HT_ ?_ ?_ ?_ ?_)
        all_goals first | (intro w'; go_simp; with_reducible rfl) | (simp only [u6_]; rfl) | rfl | skip
        refine done_ (done_of HT_.out (by kernel_rfl)) ?_
        try go_wp2
        go_roundg k1
        case measure => have := HK1.out; omega
        case rel => exact ⟨(wrap64 (x5_1 + 1)), rs_, H', ⟨by have := HK1.out; omega⟩, ⟨(bw HB)⟩⟩
       ·replace c8 := Bool.eq_false_iff.mpr c8
        subst c8
        have H1 : (some false) = some r := by rw [if_neg (show ¬ (false = true) by decide)] at H; exact H
        clear H
        have H := H1
        clear H1
        obtain rfl := Option.some.inj H
        try go_wp2
        replace HB := aM (below_drew1 HB.out)
        have p757 : 0 ≤ (x5_1 : Int) := of_decide_eq_true as_
        have q757 : x5_1 < (l0.length : Int) := of_decide_eq_true as_
        obtain ⟨ad757, A757_0, c757_0, e757, hx757_0, hx757_1, hx757_2, hx757_3, hl757_0, hi757_0⟩ := at_T29 HR0.out x5_1 p757 q757
        have hw757_3 := hx757_3
        have hw757_2 := hx757_2
        have hw757_1 := hx757_1
        have hw757_0 := hx757_0
        cases e757
        replace hx757_0 := cb HB hx757_0
        replace hx757_1 := cb HB hx757_1
        replace hx757_2 := cb HB hx757_2
        replace hx757_3 := cb HB hx757_3
        have HR757_0 := aM hi757_0
        have HC757_0 := aM hl757_0
        clear hi757_0 hl757_0
        replace p757 := eq_true p757
        replace q757 := eq_true q757
        have p758 : 0 ≤ (x5_1 : Int) := of_decide_eq_true as_
        have q758 : x5_1 < (l1.length : Int) := of_decide_eq_true as_
        obtain ⟨ad758, A758_0, c758_0, e758, hx758_0, hx758_1, hx758_2, hx758_3, hl758_0, hi758_0⟩ := at_T29 HR1.out x5_1 p758 q758
        have hw758_3 := hx758_3
        have hw758_2 := hx758_2
        have hw758_1 := hx758_1
        have hw758_0 := hx758_0
        cases e758
        replace hx758_0 := cb HB hx758_0
        replace hx758_1 := cb HB hx758_1
        replace hx758_2 := cb HB hx758_2
        replace hx758_3 := cb HB hx758_3
        have HR758_0 := aM hi758_0
        have HC758_0 := aM hl758_0
        clear hi758_0 hl758_0
        replace p758 := eq_true p758
        replace q758 := eq_true q758
        refine start_ (n := 10) (S := fun w' => w'.cell? (ad757.add ((x5_1).toNat * 4)) = some (.slice A757_0 ((rd_T29 l0 x5_1).f0).length c757_0) ∧ w'.cell? ⟨(ad757.add ((x5_1).toNat * 4)).block, (ad757.add ((x5_1).toNat * 4)).off + 1, none⟩ = some (.int .i64 ((rd_T29 l0 x5_1).f1)) ∧ w'.cell? ⟨(ad757.add ((x5_1).toNat * 4)).block, (ad757.add ((x5_1).toNat * 4)).off + 2, none⟩ = some (.int .i64 ((rd_T29 l0 x5_1).f2)) ∧ w'.cell? ⟨(ad757.add ((x5_1).toNat * 4)).block, (ad757.add ((x5_1).toNat * 4)).off + 3, none⟩ = some (.string ((rd_T29 l0 x5_1).f3)) ∧ w'.cell? (ad758.add ((x5_1).toNat * 4)) = some (.slice A758_0 ((rd_T29 l1 x5_1).f0).length c758_0) ∧ w'.cell? ⟨(ad758.add ((x5_1).toNat * 4)).block, (ad758.add ((x5_1).toNat * 4)).off + 1, none⟩ = some (.int .i64 ((rd_T29 l1 x5_1).f1)) ∧ w'.cell? ⟨(ad758.add ((x5_1).toNat * 4)).block, (ad758.add ((x5_1).toNat * 4)).off + 2, none⟩ = some (.int .i64 ((rd_T29 l1 x5_1).f2)) ∧ w'.cell? ⟨(ad758.add ((x5_1).toNat * 4)).block, (ad758.add ((x5_1).toNat * 4)).off + 3, none⟩ = some (.string ((rd_T29 l1 x5_1).f3))) (ds := []) (bz 10 0) (by kernel_rfl) rfl (by kernel_rfl) ⟨(cB HB hw757_0), (cB HB hw757_1), (cB HB hw757_2), (cB HB hw757_3), (cB HB hw758_0), (cB HB hw758_1), (cB HB hw758_2), (cB HB hw758_3)⟩ (fun hHeld => ?_); refine with_tabW spec_l4Same.tab6 spec_l4Same.bits6 (fun HT_ HW_ => ?_)
        generalize wr.drew = w11 at HB HR757_0 HR758_0 hx757_0 hx757_1 hx757_2 hx757_3 hx758_0 hx758_1 hx758_2 hx758_3 hHeld ⊢
        refine (pu 0 (some 17) 1 ?_ ?_ HT_ ?_ ?_ ?_ (pu 1 (some 18) 3 ?_ ?_ HT_ ?_ ?_ ?_ (pu 2 (some 19) 7 ?_ ?_ HT_ ?_ ?_ ?_ (pu 4 (some 21) 23 ?_ ?_ HT_ ?_ ?_ ?_ (pu 5 (some 22) 55 ?_ ?_ HT_ ?_ ?_ ?_ (pu 6 (some 23) 119 ?_ ?_ HT_ ?_ ?_ ?_ (tk 3 (some 20) 127 ?_ ?_ HT_ HW_ hHeld ?_ ?_ ?_ (tk 7 (some 24) 255 ?_ ?_ HT_ HW_ hHeld ?_ ?_ ?_ ?_))))))))
        all_goals first | (rintro w' ⟨s0, s1, s2, s3, s4, s5, s6, s7⟩; go_simp; with_reducible rfl) | (intro w'; go_simp; with_reducible rfl) | (simp only [u6_]; rfl) | rfl | skip
        refine one_ (i := 8) (N := some 25) (bz 10 511) rfl rfl (one_of HT_.out (by kernel_rfl)) (by decide) (fun K hK => ?_)
        refine goes_ Try.func68 (by kernel_rfl) rfl #[.agg #[.slice A757_0 ((rd_T29 l0 x5_1).f0).length c757_0, .int .i64 ((rd_T29 l0 x5_1).f1), .int .i64 ((rd_T29 l0 x5_1).f2), .string ((rd_T29 l0 x5_1).f3)], .agg #[.slice A758_0 ((rd_T29 l1 x5_1).f0).length c758_0, .int .i64 ((rd_T29 l1 x5_1).f1), .int .i64 ((rd_T29 l1 x5_1).f2), .string ((rd_T29 l1 x5_1).f3)]] (by rfl) rfl rfl mp ?_
        with_reducible refine (spec_SameAlarm.calls k1 _ _ ((rd_T29 l0 x5_1).f0) ((rd_T29 l0 x5_1).f1) ((rd_T29 l0 x5_1).f2) ((rd_T29 l0 x5_1).f3) _ _ ((rd_T29 l1 x5_1).f0) ((rd_T29 l1 x5_1).f1) ((rd_T29 l1 x5_1).f2) ((rd_T29 l1 x5_1).f3) false _ ?side1 ?side2 ?side3 ?side4 A7.out).mono ?_
        (case side1 => exact cA (Kd.C_below HR757_0.out HB.out))
        (case side2 => exact HC757_0.out)
        (case side3 => exact cA (Kd.C_below HR758_0.out HB.out))
        (case side4 => exact HC758_0.out)
        rintro e w12 ⟨rfl, hb⟩
        refine ⟨_, rfl, ?_⟩
        replace HB := aM (below_step (bw HB) hb)
        (try clear hb)
        (try clear hb2)
        (try clear hk)
        (try clear hi)
        refine hK.out _ _ ⟨(cB HB hw757_0), (cB HB hw757_1), (cB HB hw757_2), (cB HB hw757_3), (cB HB hw758_0), (cB HB hw758_1), (cB HB hw758_2), (cB HB hw758_3)⟩ (fun hHeld => ?_)
        clear hK K
        refine norm_ (a' := ?_) ?_ ?_
        rotate_left
        ·show Act.put _ (some 25) _ = _
         simp only [u6_]
         rfl
        refine (pu 9 (some 26) 1023 ?_ ?_ HT_ ?_ ?_ ?_ ?_)
        all_goals first | (intro w'; go_simp; with_reducible rfl) | (simp only [u6_]; rfl) | rfl | skip
        refine done_ (done_of HT_.out (by kernel_rfl)) ?_
        try go_wp2
        go_ret
        exact ⟨er, (bw HB)⟩
      ·rw [if_neg c6] at H
       exact absurd H (by simp)
     ·rw [if_neg c5] at H
      exact absurd H (by simp)
    ·rw [if_neg c4] at H; have c4b0 : decide (x5_1 < (l0.length : Int)) = false := decide_eq_false c4; clear c4
     obtain rfl := Option.some.inj H
     go_wp2
     go_ret
     exact ⟨er, (bw HB)⟩
 ·rw [if_neg c3] at H
  have c3b0 : ((l0.length : Int) == (l1.length : Int)) = false := beq_eq_false_iff_ne.mpr c3
  have c3b1 : ((l0.length : Int) != (l1.length : Int)) = true := bne_iff_ne.mpr c3
  have c3b2 : (l0.length == l1.length) = false := by first | simpa using c3 | (simp at c3 ⊢; omega)
  obtain rfl := Option.some.inj H
  go_enter Try.func44, Try.ntmps44
  go_wp2
  go_ret
  exact ⟨er, (bw HB)⟩

/-! ### spec_SameChain: function 17 -/
def spec_SameChain.f (k : Nat) (a0_0 : Int) (l0_1 : List (S29)) (a1_0 : Int) (l1_1 : List (S29)) : Option (Bool) := if a0_0 = a1_0 then ((spec_l4Same.f k l0_1 l1_1).bind fun t762 => (some t762)) else (some false)
theorem spec_SameChain.calls (k : Nat) (a0_0 : Int) (A0_1 : Option Addr) (c0_1 : Nat) (l0_1 : List (S29)) (a1_0 : Int) (A1_1 : Option Addr) (c1_1 : Nat) (l1_1 : List (S29)) (r : Bool) (w : World) (hr0_1 : Kd.C k29 w A0_1 l0_1.length l0_1) (hc0_1 : l0_1.length ≤ c0_1) (hr1_1 : Kd.C k29 w A1_1 l1_1.length l1_1) (hc1_1 : l1_1.length ≤ c1_1) (h : spec_SameChain.f k a0_0 l0_1 a1_0 l1_1 = some r) :
  Calls Try.prog 17 #[.agg #[.int .i64 a0_0, .slice A0_1 l0_1.length c0_1], .agg #[.int .i64 a1_0, .slice A1_1 l1_1.length c1_1]] w fun e w' => e = .returned (.bool r) ∧ Below w.heap.size w w' := by
 have hu26 := Try.underlying26
 have HR0_1 := aM hr0_1
 have HC0_1 := aM hc0_1
 clear hr0_1 hc0_1
 have HR1_1 := aM hr1_1
 have HC1_1 := aM hc1_1
 clear hr1_1 hc1_1
 have HB := aM (Below.refl w.heap.size w)
 have H : (if a0_0 = a1_0 then ((spec_l4Same.f k l0_1 l1_1).bind fun t762 => (some t762)) else (some false)) = some r := h
 clear h
 by_cases c3 : a0_0 = a1_0
 ·rw [if_pos c3] at H
  have c3b0 : (a0_0 == a1_0) = true := beq_iff_eq.mpr c3
  have c3b1 : (a0_0 != a1_0) = false := bne_eq_false_iff_eq.mpr c3
  clear c3; replace H := bs_ H; obtain ⟨t762, A40, H⟩ := H; try dsimp only at H
  have A4 := aM A40
  clear A40
  obtain rfl := Option.some.inj H
  go_enter Try.func17, Try.ntmps17
  go_wp2_with (first | (refine be_ 2 #[.int .i64 a0_0, .slice A0_1 l0_1.length c0_1] 26 ?_; intro gb760 hg w5 hbox hb; have BK760 := aM (hbox); have GW760 := gw hg (bw HB); have GE760 := gw hg (bw HB); replace HB := aM (below_step (bw HB) hb); clear hb hbox hg) | (refine be_ 3 #[.int .i64 a1_0, .slice A1_1 l1_1.length c1_1] 26 ?_; intro gb761 hg w6 hbox hb; have BK761 := aM (hbox); have GW761 := gw hg (bw HB); have GE761 := gw hg (bw HB); replace HB := aM (below_step (bw HB) hb); have NB760_761 := nb1 hg BK760; have NB761_760 := nb2 hg BK760; replace BK760 := bb BK760 hb; clear hb hbox hg; have hnb7 := NB760_761.out; have hnc7 := NB761_760.out; obtain ⟨hcz8_0, hcz8_1⟩ := zc2 BK760; have hfz8_0 := zf BK760; obtain ⟨hcz9_0, hcz9_1⟩ := zc2 BK761; have hfz9_0 := zf BK761) | (go_at_call 44; (with_reducible refine (spec_l4Same.calls k _ _ l0_1 _ _ l1_1 t762 _ ?side1 ?side2 ?side3 ?side4 A4.out).mono ?_); (case side1 => exact cA (Kd.C_below HR0_1.out HB.out)); (case side2 => exact HC0_1.out); (case side3 => exact cA (Kd.C_below HR1_1.out HB.out)); (case side4 => exact HC1_1.out); rintro e w10 ⟨rfl, hb⟩; replace BK760 := bb BK760 hb; replace BK761 := bb BK761 hb; replace HB := aM (below_step (bw HB) hb); (try clear hb); (try clear hb2); (try clear hk); (try clear hi)))
  go_ret
  exact ⟨er, (bw HB)⟩
 ·rw [if_neg c3] at H
  have c3b0 : (a0_0 == a1_0) = false := beq_eq_false_iff_ne.mpr c3
  have c3b1 : (a0_0 != a1_0) = true := bne_iff_ne.mpr c3
  obtain rfl := Option.some.inj H
  go_enter Try.func17, Try.ntmps17
  go_wp2_with (first | (refine be_ 2 #[.int .i64 a0_0, .slice A0_1 l0_1.length c0_1] 26 ?_; intro gb760 hg w11 hbox hb; have BK760 := aM (hbox); have GW760 := gw hg (bw HB); have GE760 := gw hg (bw HB); replace HB := aM (below_step (bw HB) hb); clear hb hbox hg) | (refine be_ 3 #[.int .i64 a1_0, .slice A1_1 l1_1.length c1_1] 26 ?_; intro gb761 hg w12 hbox hb; have BK761 := aM (hbox); have GW761 := gw hg (bw HB); have GE761 := gw hg (bw HB); replace HB := aM (below_step (bw HB) hb); have NB760_761 := nb1 hg BK760; have NB761_760 := nb2 hg BK760; replace BK760 := bb BK760 hb; clear hb hbox hg; have hnb13 := NB760_761.out; have hnc13 := NB761_760.out; obtain ⟨hcz14_0, hcz14_1⟩ := zc2 BK760; have hfz14_0 := zf BK760; obtain ⟨hcz15_0, hcz15_1⟩ := zc2 BK761; have hfz15_0 := zf BK761))
  go_ret
  exact ⟨er, (bw HB)⟩

end Go.Proofs.Ytdhignbneeapiaa.PFnChains
