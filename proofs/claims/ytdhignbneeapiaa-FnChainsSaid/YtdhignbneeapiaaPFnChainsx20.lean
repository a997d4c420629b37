/- What the Go functions that FnChains reaches compute, as Lean functions, and that the machine's calls do so; no conditions. -/
import Derived.Test.YtdhignbneeapiaaPFnChainsx0
import Derived.Test.YtdhignbneeapiaaPFnChainsx13
namespace Go.Proofs.Ytdhignbneeapiaa.PFnChains
open Go.Proofs.Ytdhignbneeapiaa
open Go.RowKit Go.Proofs.YtdhignbneeapiaaW.PrintWords Go.Proofs.YtdhignbneeapiaaW.PrintLast Go.Proofs.YtdhignbneeapiaaW.PrintMore
attribute [local go_sem] max2_int min2_int max_two min_two max_three min_three max_four min_four   -- for this text's walks alone
set_option linter.unusedVariables false
set_option linter.unusedSimpArgs false

/-! ### laws_sameList: function 18 -/
def laws_sameList.l0 : Nat → List (S29) → List (S29) → Int → Option (Bool)
  | 0, _, _, _ => none
  | k + 1, x0, x1, x5 => if x5 < (x0.length : Int) then (if 0 ≤ x5 then (if x5 < (x1.length : Int) then ((impl_SameAlarm.f k ((rd_T29 x0 x5).f0) ((rd_T29 x0 x5).f1) ((rd_T29 x0 x5).f2) ((rd_T29 x0 x5).f3) ((rd_T29 x1 x5).f0) ((rd_T29 x1 x5).f1) ((rd_T29 x1 x5).f2) ((rd_T29 x1 x5).f3)).bind fun t765 => (if t765 = true then (laws_sameList.l0 k x0 x1 (wrap64 (x5 + 1))) else (some false))) else (none)) else (none)) else (some true)
def laws_sameList.f (k : Nat) (l0 : List (S29)) (l1 : List (S29)) : Option (Bool) := if (l0.length : Int) = (l1.length : Int) then (laws_sameList.l0 k l0 l1 0) else (some false)
def laws_sameList.T6 : Bool × List (List Nat × List Nat) := (true, [([], []), ([], []), ([0, 1], [0, 1]), ([2], [2]), ([], []), ([], []), ([4, 5], [4, 5]), ([6], [6]), ([3, 7], [3, 7]), ([8], [8])])
def laws_sameList.B6 : List Nat := [0, 0, 3, 7, 0, 0, 48, 112, 255, 511]
theorem laws_sameList.tab6 : rtab .any (opsOf Try.f18 6) = laws_sameList.T6 := by kernel_rfl
theorem laws_sameList.bits6 : waitsOk laws_sameList.T6.2 laws_sameList.B6 = true := by kernel_rfl
set_option maxHeartbeats 8000000 in
set_option maxRecDepth 100000 in
theorem laws_sameList.calls (k : Nat) (A0 : Option Addr) (c0 : Nat) (l0 : List (S29)) (A1 : Option Addr) (c1 : Nat) (l1 : List (S29)) (r : Bool) (w : World) (hr0 : Kd.C k29 w A0 l0.length l0) (hc0 : l0.length ≤ c0) (hr1 : Kd.C k29 w A1 l1.length l1) (hc1 : l1.length ≤ c1) (h : laws_sameList.f k l0 l1 = some r) :
    Calls Try.prog 18 #[.slice A0 l0.length c0, .slice A1 l1.length c1] w fun e w' => e = .returned (.bool r) ∧ Below w.heap.size w w' := by
  have hu29 := Try.underlying29
  have HR0 := aM hr0
  have HC0 := aM hc0
  clear hr0 hc0
  have HR1 := aM hr1
  have HC1 := aM hc1
  clear hr1 hc1
  have HB := aM (Below.refl w.heap.size w)
  have H : (if (l0.length : Int) = (l1.length : Int) then (laws_sameList.l0 k l0 l1 0) else (some false)) = some r := h
  clear h
  by_cases c3 : (l0.length : Int) = (l1.length : Int)
  · rw [if_pos c3] at H
    have c3b0 : ((l0.length : Int) == (l1.length : Int)) = true := beq_iff_eq.mpr c3
    have c3b1 : ((l0.length : Int) != (l1.length : Int)) = false := bne_eq_false_iff_eq.mpr c3
    have c3b2 : (l0.length == l1.length) = true := by first | simpa using c3 | (simp at c3 ⊢; omega)
    clear c3
    have H' := aM H
    clear H
    go_enter Try.func18, Try.ntmps18
    go_wp2
    go_loopg [5] k (fun kq v5 w' => ∃ (x5_1 : Int), v5 = .int .i64 x5_1 ∧ Aside0 (laws_sameList.l0 kq l0 l1 x5_1 = some r) ∧ Aside0 (kq ≤ k) ∧ Aside0 (Below w.heap.size w w'))
    case atStart => exact ⟨(0), rs_, H', ⟨Nat.le_refl _⟩, ⟨(bw HB)⟩⟩
    case round =>
      clear H'
      try clear c1
      try clear p2
      try clear c3
      try clear c3b0
      try clear c3b1
      try clear c3b2
      obtain ⟨x5_1, rfl, HA, HK1, HB⟩ := hrel
      cases gk with
      | zero => exact absurd HA.out (by simp [laws_sameList.l0])
      | succ k1 =>
        have H := HA.out
        clear HA
        simp only [laws_sameList.l0] at H
        by_cases c4 : x5_1 < (l0.length : Int)
        · rw [if_pos c4] at H
          have c4b0 : decide (x5_1 < (l0.length : Int)) = true := decide_eq_true c4; clear c4
          by_cases c5 : 0 ≤ x5_1
          · rw [if_pos c5] at H
            have c5b0 : decide (0 ≤ x5_1) = true := decide_eq_true c5; clear c5
            by_cases c6 : x5_1 < (l1.length : Int)
            · rw [if_pos c6] at H
              have c6b0 : decide (x5_1 < (l1.length : Int)) = true := decide_eq_true c6; clear c6; replace H := bs_ H; obtain ⟨t765, A70, H⟩ := H; try dsimp only at H
              have A7 := aM A70
              clear A70
              by_cases c8 : t765 = true
              · subst c8
                have H1 : (laws_sameList.l0 k1 l0 l1 (wrap64 (x5_1 + 1))) = some r := by rw [if_pos rfl] at H; exact H
                clear H
                have H := H1
                clear H1
                have H' := aM H
                clear H
                try go_wp2
                replace HB := aM (below_drew1 HB.out)
                have p763 : 0 ≤ (x5_1 : Int) := of_decide_eq_true as_
                have q763 : x5_1 < (l0.length : Int) := of_decide_eq_true as_
                obtain ⟨ad763, A763_0, c763_0, e763, hx763_0, hx763_1, hx763_2, hx763_3, hl763_0, hi763_0⟩ := at_T29 HR0.out x5_1 p763 q763
                have hw763_3 := hx763_3
                have hw763_2 := hx763_2
                have hw763_1 := hx763_1
                have hw763_0 := hx763_0
                cases e763
                replace hx763_0 := cb HB hx763_0
                replace hx763_1 := cb HB hx763_1
                replace hx763_2 := cb HB hx763_2
                replace hx763_3 := cb HB hx763_3
                have HR763_0 := aM hi763_0
                have HC763_0 := aM hl763_0
                clear hi763_0 hl763_0
                replace p763 := eq_true p763
                replace q763 := eq_true q763
                have p764 : 0 ≤ (x5_1 : Int) := of_decide_eq_true as_
                have q764 : x5_1 < (l1.length : Int) := of_decide_eq_true as_
                obtain ⟨ad764, A764_0, c764_0, e764, hx764_0, hx764_1, hx764_2, hx764_3, hl764_0, hi764_0⟩ := at_T29 HR1.out x5_1 p764 q764
                have hw764_3 := hx764_3
                have hw764_2 := hx764_2
                have hw764_1 := hx764_1
                have hw764_0 := hx764_0
                cases e764
                replace hx764_0 := cb HB hx764_0
                replace hx764_1 := cb HB hx764_1
                replace hx764_2 := cb HB hx764_2
                replace hx764_3 := cb HB hx764_3
                have HR764_0 := aM hi764_0
                have HC764_0 := aM hl764_0
                clear hi764_0 hl764_0
                replace p764 := eq_true p764
                replace q764 := eq_true q764
                refine start_ (n := 10) (S := fun w' => w'.cell? (ad763.add ((x5_1).toNat * 4)) = some (.slice A763_0 ((rd_T29 l0 x5_1).f0).length c763_0) ∧ w'.cell? ⟨(ad763.add ((x5_1).toNat * 4)).block, (ad763.add ((x5_1).toNat * 4)).off + 1, none⟩ = some (.int .i64 ((rd_T29 l0 x5_1).f1)) ∧ w'.cell? ⟨(ad763.add ((x5_1).toNat * 4)).block, (ad763.add ((x5_1).toNat * 4)).off + 2, none⟩ = some (.int .i64 ((rd_T29 l0 x5_1).f2)) ∧ w'.cell? ⟨(ad763.add ((x5_1).toNat * 4)).block, (ad763.add ((x5_1).toNat * 4)).off + 3, none⟩ = some (.string ((rd_T29 l0 x5_1).f3)) ∧ w'.cell? (ad764.add ((x5_1).toNat * 4)) = some (.slice A764_0 ((rd_T29 l1 x5_1).f0).length c764_0) ∧ w'.cell? ⟨(ad764.add ((x5_1).toNat * 4)).block, (ad764.add ((x5_1).toNat * 4)).off + 1, none⟩ = some (.int .i64 ((rd_T29 l1 x5_1).f1)) ∧ w'.cell? ⟨(ad764.add ((x5_1).toNat * 4)).block, (ad764.add ((x5_1).toNat * 4)).off + 2, none⟩ = some (.int .i64 ((rd_T29 l1 x5_1).f2)) ∧ w'.cell? ⟨(ad764.add ((x5_1).toNat * 4)).block, (ad764.add ((x5_1).toNat * 4)).off + 3, none⟩ = some (.string ((rd_T29 l1 x5_1).f3))) (ds := []) (bz 10 0) (by kernel_rfl) rfl (by kernel_rfl) ⟨(cB HB hw763_0), (cB HB hw763_1), (cB HB hw763_2), (cB HB hw763_3), (cB HB hw764_0), (cB HB hw764_1), (cB HB hw764_2), (cB HB hw764_3)⟩ (fun hHeld => ?_); refine with_tabW laws_sameList.tab6 laws_sameList.bits6 (fun HT_ HW_ => ?_)
                generalize wr.drew = w9 at HB HR763_0 HR764_0 hx763_0 hx763_1 hx763_2 hx763_3 hx764_0 hx764_1 hx764_2 hx764_3 hHeld ⊢
                refine pB_ 0 (some 17) 1 ?_ ?_ HT_ ?_ ?_ ?_
                rotate_left
                · intro w'
                  go_simp
                  with_reducible rfl
                rotate_left
                · simp only [u6_]
                  rfl
                refine pB_ 1 (some 18) 3 ?_ ?_ HT_ ?_ ?_ ?_
                rotate_left
                · intro w'
                  go_simp
                  with_reducible rfl
                rotate_left
                · simp only [u6_]
                  rfl
                refine pB_ 2 (some 19) 7 ?_ ?_ HT_ ?_ ?_ ?_
                rotate_left
                · intro w'
                  go_simp
                  with_reducible rfl
                rotate_left
                · simp only [u6_]
                  rfl
                refine pB_ 4 (some 21) 23 ?_ ?_ HT_ ?_ ?_ ?_
                rotate_left
                · intro w'
                  go_simp
                  with_reducible rfl
                rotate_left
                · simp only [u6_]
                  rfl
                refine pB_ 5 (some 22) 55 ?_ ?_ HT_ ?_ ?_ ?_
                rotate_left
                · intro w'
                  go_simp
                  with_reducible rfl
                rotate_left
                · simp only [u6_]
                  rfl
                refine pB_ 6 (some 23) 119 ?_ ?_ HT_ ?_ ?_ ?_
                rotate_left
                · intro w'
                  go_simp
                  with_reducible rfl
                rotate_left
                · simp only [u6_]
                  rfl
                refine tB_ 3 (some 20) 127 ?_ ?_ HT_ HW_ hHeld ?_ ?_ ?_
                rotate_left
                · rintro w' ⟨s0, s1, s2, s3, s4, s5, s6, s7⟩
                  go_simp
                  with_reducible rfl
                rotate_left
                · simp only [u6_]
                  rfl
                refine tB_ 7 (some 24) 255 ?_ ?_ HT_ HW_ hHeld ?_ ?_ ?_
                rotate_left
                · rintro w' ⟨s0, s1, s2, s3, s4, s5, s6, s7⟩
                  go_simp
                  with_reducible rfl
                rotate_left
                · simp only [u6_]
                  rfl
                refine one_ (i := 8) (N := some 25) (bz 10 511) rfl rfl (one_of HT_.out (by kernel_rfl)) (by decide) (fun K hK => ?_)
                refine goes_ Try.func21 (by kernel_rfl) rfl #[.agg #[.slice A763_0 ((rd_T29 l0 x5_1).f0).length c763_0, .int .i64 ((rd_T29 l0 x5_1).f1), .int .i64 ((rd_T29 l0 x5_1).f2), .string ((rd_T29 l0 x5_1).f3)], .agg #[.slice A764_0 ((rd_T29 l1 x5_1).f0).length c764_0, .int .i64 ((rd_T29 l1 x5_1).f1), .int .i64 ((rd_T29 l1 x5_1).f2), .string ((rd_T29 l1 x5_1).f3)]] (by rfl) rfl rfl mp ?_
                with_reducible refine (impl_SameAlarm.calls k1 _ _ ((rd_T29 l0 x5_1).f0) ((rd_T29 l0 x5_1).f1) ((rd_T29 l0 x5_1).f2) ((rd_T29 l0 x5_1).f3) _ _ ((rd_T29 l1 x5_1).f0) ((rd_T29 l1 x5_1).f1) ((rd_T29 l1 x5_1).f2) ((rd_T29 l1 x5_1).f3) true _ ?side1 ?side2 ?side3 ?side4 A7.out).mono ?_
                (case side1 => exact cA (Kd.C_below HR763_0.out HB.out))
                (case side2 => exact HC763_0.out)
                (case side3 => exact cA (Kd.C_below HR764_0.out HB.out))
                (case side4 => exact HC764_0.out)
                rintro e w10 ⟨rfl, hb⟩
                refine ⟨_, rfl, ?_⟩
                replace HB := aM (below_step (bw HB) hb)
                (try clear hb)
                (try clear hb2)
                (try clear hk)
                (try clear hi)
                refine hK.out _ _ ⟨(cB HB hw763_0), (cB HB hw763_1), (cB HB hw763_2), (cB HB hw763_3), (cB HB hw764_0), (cB HB hw764_1), (cB HB hw764_2), (cB HB hw764_3)⟩ (fun hHeld => ?_)
                clear hK K
                refine norm_ (a' := ?_) ?_ ?_
                rotate_left
                · show Act.put _ (some 25) _ = _
                  simp only [u6_]
                  rfl
                refine pB_ 9 (some 26) 1023 ?_ ?_ HT_ ?_ ?_ ?_
                rotate_left
                · intro w'
                  go_simp
                  with_reducible rfl
                rotate_left
                · simp only [u6_]
                  rfl
                refine done_ (done_of HT_.out (by kernel_rfl)) ?_
                try go_wp2
                go_roundg k1
                case measure => have := HK1.out; omega
                case rel => exact ⟨(wrap64 (x5_1 + 1)), rs_, H', ⟨by have := HK1.out; omega⟩, ⟨(bw HB)⟩⟩
              · replace c8 := Bool.eq_false_iff.mpr c8
                subst c8
                have H1 : (some false) = some r := by rw [if_neg (show ¬ (false = true) by decide)] at H; exact H
                clear H
                have H := H1
                clear H1
                obtain rfl := Option.some.inj H
                try go_wp2
                replace HB := aM (below_drew1 HB.out)
                have p763 : 0 ≤ (x5_1 : Int) := of_decide_eq_true as_
                have q763 : x5_1 < (l0.length : Int) := of_decide_eq_true as_
                obtain ⟨ad763, A763_0, c763_0, e763, hx763_0, hx763_1, hx763_2, hx763_3, hl763_0, hi763_0⟩ := at_T29 HR0.out x5_1 p763 q763
                have hw763_3 := hx763_3
                have hw763_2 := hx763_2
                have hw763_1 := hx763_1
                have hw763_0 := hx763_0
                cases e763
                replace hx763_0 := cb HB hx763_0
                replace hx763_1 := cb HB hx763_1
                replace hx763_2 := cb HB hx763_2
                replace hx763_3 := cb HB hx763_3
                have HR763_0 := aM hi763_0
                have HC763_0 := aM hl763_0
                clear hi763_0 hl763_0
                replace p763 := eq_true p763
                replace q763 := eq_true q763
                have p764 : 0 ≤ (x5_1 : Int) := of_decide_eq_true as_
                have q764 : x5_1 < (l1.length : Int) := of_decide_eq_true as_
                obtain ⟨ad764, A764_0, c764_0, e764, hx764_0, hx764_1, hx764_2, hx764_3, hl764_0, hi764_0⟩ := at_T29 HR1.out x5_1 p764 q764
                have hw764_3 := hx764_3
                have hw764_2 := hx764_2
                have hw764_1 := hx764_1
                have hw764_0 := hx764_0
                cases e764
                replace hx764_0 := cb HB hx764_0
                replace hx764_1 := cb HB hx764_1
                replace hx764_2 := cb HB hx764_2
                replace hx764_3 := cb HB hx764_3
                have HR764_0 := aM hi764_0
                have HC764_0 := aM hl764_0
                clear hi764_0 hl764_0
                replace p764 := eq_true p764
                replace q764 := eq_true q764
                refine start_ (n := 10) (S := fun w' => w'.cell? (ad763.add ((x5_1).toNat * 4)) = some (.slice A763_0 ((rd_T29 l0 x5_1).f0).length c763_0) ∧ w'.cell? ⟨(ad763.add ((x5_1).toNat * 4)).block, (ad763.add ((x5_1).toNat * 4)).off + 1, none⟩ = some (.int .i64 ((rd_T29 l0 x5_1).f1)) ∧ w'.cell? ⟨(ad763.add ((x5_1).toNat * 4)).block, (ad763.add ((x5_1).toNat * 4)).off + 2, none⟩ = some (.int .i64 ((rd_T29 l0 x5_1).f2)) ∧ w'.cell? ⟨(ad763.add ((x5_1).toNat * 4)).block, (ad763.add ((x5_1).toNat * 4)).off + 3, none⟩ = some (.string ((rd_T29 l0 x5_1).f3)) ∧ w'.cell? (ad764.add ((x5_1).toNat * 4)) = some (.slice A764_0 ((rd_T29 l1 x5_1).f0).length c764_0) ∧ w'.cell? ⟨(ad764.add ((x5_1).toNat * 4)).block, (ad764.add ((x5_1).toNat * 4)).off + 1, none⟩ = some (.int .i64 ((rd_T29 l1 x5_1).f1)) ∧ w'.cell? ⟨(ad764.add ((x5_1).toNat * 4)).block, (ad764.add ((x5_1).toNat * 4)).off + 2, none⟩ = some (.int .i64 ((rd_T29 l1 x5_1).f2)) ∧ w'.cell? ⟨(ad764.add ((x5_1).toNat * 4)).block, (ad764.add ((x5_1).toNat * 4)).off + 3, none⟩ = some (.string ((rd_T29 l1 x5_1).f3))) (ds := []) (bz 10 0) (by kernel_rfl) rfl (by kernel_rfl) ⟨(cB HB hw763_0), (cB HB hw763_1), (cB HB hw763_2), (cB HB hw763_3), (cB HB hw764_0), (cB HB hw764_1), (cB HB hw764_2), (cB HB hw764_3)⟩ (fun hHeld => ?_); refine with_tabW laws_sameList.tab6 laws_sameList.bits6 (fun HT_ HW_ => ?_)
                generalize wr.drew = w11 at HB HR763_0 HR764_0 hx763_0 hx763_1 hx763_2 hx763_3 hx764_0 hx764_1 hx764_2 hx764_3 hHeld ⊢
                refine pB_ 0 (some 17) 1 ?_ ?_ HT_ ?_ ?_ ?_
                rotate_left
                · intro w'
                  go_simp
                  with_reducible rfl
                rotate_left
                · simp only [u6_]
                  rfl
                refine pB_ 1 (some 18) 3 ?_ ?_ HT_ ?_ ?_ ?_
                rotate_left
                · intro w'
                  go_simp
                  with_reducible rfl
                rotate_left
                · simp only [u6_]
                  rfl
                refine pB_ 2 (some 19) 7 ?_ ?_ HT_ ?_ ?_ ?_
                rotate_left
                · intro w'
                  go_simp
                  with_reducible rfl
                rotate_left
                · simp only [u6_]
                  rfl
                refine pB_ 4 (some 21) 23 ?_ ?_ HT_ ?_ ?_ ?_
                rotate_left
                · intro w'
                  go_simp
                  with_reducible rfl
                rotate_left
                · simp only [u6_]
                  rfl
                refine pB_ 5 (some 22) 55 ?_ ?_ HT_ ?_ ?_ ?_
                rotate_left
                · intro w'
                  go_simp
                  with_reducible rfl
                rotate_left
                · simp only [u6_]
                  rfl
                refine pB_ 6 (some 23) 119 ?_ ?_ HT_ ?_ ?_ ?_
                rotate_left
                · intro w'
                  go_simp
                  with_reducible rfl
                rotate_left
                · simp only [u6_]
                  rfl
                refine tB_ 3 (some 20) 127 ?_ ?_ HT_ HW_ hHeld ?_ ?_ ?_
                rotate_left
                · rintro w' ⟨s0, s1, s2, s3, s4, s5, s6, s7⟩
                  go_simp
                  with_reducible rfl
                rotate_left
                · simp only [u6_]
                  rfl
                refine tB_ 7 (some 24) 255 ?_ ?_ HT_ HW_ hHeld ?_ ?_ ?_
                rotate_left
                · rintro w' ⟨s0, s1, s2, s3, s4, s5, s6, s7⟩
                  go_simp
                  with_reducible rfl
                rotate_left
                · simp only [u6_]
                  rfl
                refine one_ (i := 8) (N := some 25) (bz 10 511) rfl rfl (one_of HT_.out (by kernel_rfl)) (by decide) (fun K hK => ?_)
                refine goes_ Try.func21 (by kernel_rfl) rfl #[.agg #[.slice A763_0 ((rd_T29 l0 x5_1).f0).length c763_0, .int .i64 ((rd_T29 l0 x5_1).f1), .int .i64 ((rd_T29 l0 x5_1).f2), .string ((rd_T29 l0 x5_1).f3)], .agg #[.slice A764_0 ((rd_T29 l1 x5_1).f0).length c764_0, .int .i64 ((rd_T29 l1 x5_1).f1), .int .i64 ((rd_T29 l1 x5_1).f2), .string ((rd_T29 l1 x5_1).f3)]] (by rfl) rfl rfl mp ?_
                with_reducible refine (impl_SameAlarm.calls k1 _ _ ((rd_T29 l0 x5_1).f0) ((rd_T29 l0 x5_1).f1) ((rd_T29 l0 x5_1).f2) ((rd_T29 l0 x5_1).f3) _ _ ((rd_T29 l1 x5_1).f0) ((rd_T29 l1 x5_1).f1) ((rd_T29 l1 x5_1).f2) ((rd_T29 l1 x5_1).f3) false _ ?side1 ?side2 ?side3 ?side4 A7.out).mono ?_
                (case side1 => exact cA (Kd.C_below HR763_0.out HB.out))
                (case side2 => exact HC763_0.out)
                (case side3 => exact cA (Kd.C_below HR764_0.out HB.out))
                (case side4 => exact HC764_0.out)
                rintro e w12 ⟨rfl, hb⟩
                refine ⟨_, rfl, ?_⟩
                replace HB := aM (below_step (bw HB) hb)
                (try clear hb)
                (try clear hb2)
                (try clear hk)
                (try clear hi)
                refine hK.out _ _ ⟨(cB HB hw763_0), (cB HB hw763_1), (cB HB hw763_2), (cB HB hw763_3), (cB HB hw764_0), (cB HB hw764_1), (cB HB hw764_2), (cB HB hw764_3)⟩ (fun hHeld => ?_)
                clear hK K
                refine norm_ (a' := ?_) ?_ ?_
                rotate_left
                · show Act.put _ (some 25) _ = _
                  simp only [u6_]
                  rfl
                refine pB_ 9 (some 26) 1023 ?_ ?_ HT_ ?_ ?_ ?_
                rotate_left
                · intro w'
                  go_simp
                  with_reducible rfl
                rotate_left
                · simp only [u6_]
                  rfl
                refine done_ (done_of HT_.out (by kernel_rfl)) ?_
                try go_wp2
                go_ret
                exact ⟨er, (bw HB)⟩
            · rw [if_neg c6] at H
              exact absurd H (by simp)
          · rw [if_neg c5] at H
            exact absurd H (by simp)
        · rw [if_neg c4] at H
          have c4b0 : decide (x5_1 < (l0.length : Int)) = false := decide_eq_false c4; clear c4
          obtain rfl := Option.some.inj H
          go_wp2
          go_ret
          exact ⟨er, (bw HB)⟩
  · rw [if_neg c3] at H
    have c3b0 : ((l0.length : Int) == (l1.length : Int)) = false := beq_eq_false_iff_ne.mpr c3
    have c3b1 : ((l0.length : Int) != (l1.length : Int)) = true := bne_iff_ne.mpr c3
    have c3b2 : (l0.length == l1.length) = false := by first | simpa using c3 | (simp at c3 ⊢; omega)
    obtain rfl := Option.some.inj H
    go_enter Try.func18, Try.ntmps18
    go_wp2
    go_ret
    exact ⟨er, (bw HB)⟩

end Go.Proofs.Ytdhignbneeapiaa.PFnChains
