/- What the Go functions that FnChains reaches compute, as Lean functions, and that the machine's calls do so; no conditions. -/
import Derived.Test.YtdhignbneeapiaaPFnChainsx0
import Derived.Test.YtdhignbneeapiaaPFnChainsx5
namespace Go.Proofs.Ytdhignbneeapiaa.PFnChains
open Go.Proofs.Ytdhignbneeapiaa
open Go.RowKit Go.Proofs.YtdhignbneeapiaaW.PrintWords Go.Proofs.YtdhignbneeapiaaW.PrintLast Go.Proofs.YtdhignbneeapiaaW.PrintMore
attribute [local go_sem] max2_int min2_int max_two min_two max_three min_three max_four min_four   -- for this text's walks alone
set_option linter.unusedVariables false
set_option linter.unusedSimpArgs false

/-! ### spec_SetOk: function 63 -/
def spec_SetOk.l0 : Nat → List (S76) → Int → Option (Bool)
 | 0, _, _ => none
 | k + 1, x0, x3 => if x3 < (x0.length : Int) then (if 0 ≤ x3 then ((spec_LabelOk.f k ((rd_T76 x0 x3).f0) ((rd_T76 x0 x3).f1)).bind fun t257 => (if t257 = true then (if x3 > 0 then (if 0 ≤ (wrap64 (x3 - 1)) then (if (wrap64 (x3 - 1)) < (x0.length : Int) then ((spec_Less.f ((rd_T76 x0 (wrap64 (x3 - 1))).f0) ((rd_T76 x0 x3).f0)).bind fun t260 => (if t260 = true then (spec_SetOk.l0 k x0 (wrap64 (x3 + 1))) else (some false))) else (none)) else (none)) else (spec_SetOk.l0 k x0 (wrap64 (x3 + 1)))) else (some false))) else (none)) else (some (decide ((x0.length : Int) ≤ 4)))
def spec_SetOk.f (k : Nat) (l0 : List (S76)) : Option (Bool) := spec_SetOk.l0 k l0 0
def spec_SetOk.T4 : Bool × List (List Nat × List Nat) := (true, [([], []), ([], []), ([0, 1], [0, 1]), ([2], [2]), ([3], [3]), ([4], [4]), ([5, 4], [5]), ([6], [6]), ([7, 6], [6, 7]), ([8, 6, 6], [6, 8]), ([9], [9]), ([9], [9]), ([11, 9], [9, 11]), ([10, 12, 9], [9, 10, 12]), ([13, 9], [9, 13]), ([14, 9], [9, 14]), ([9], [9]), ([9], [9]), ([16, 17, 9], [9, 16, 17]), ([18, 9], [9, 18]), ([19, 9], [9, 19]), ([15, 20, 9, 9], [9, 15, 20]), ([21, 9], [9, 21]), ([9, 22, 6], [6, 9, 22]), ([6, 23], [6, 23])])
def spec_SetOk.B4 : List Nat := [0, 0, 3, 7, 15, 31, 63, 127, 255, 511, 1023, 1023, 3071, 8191, 16383, 32767, 1023, 1023, 197631, 459775, 984063, 2097151, 4194303, 8388607, 16777215]
theorem spec_SetOk.tab4 : rtab .any (opsOf Try.f63 4) = spec_SetOk.T4 := by kernel_rfl
theorem spec_SetOk.bits4 : waitsOk spec_SetOk.T4.2 spec_SetOk.B4 = true := by kernel_rfl
set_option maxHeartbeats 8000000 in
set_option maxRecDepth 100000 in
theorem spec_SetOk.calls (k : Nat) (A0 : Option Addr) (c0 : Nat) (l0 : List (S76)) (r : Bool) (w : World) (hr0 : Kd.C k76 w A0 l0.length l0) (hc0 : l0.length ≤ c0) (h : spec_SetOk.f k l0 = some r) :
  Calls Try.prog 63 #[.slice A0 l0.length c0] w fun e w' => e = .returned (.bool r) ∧ Below w.heap.size w w' := by
 have hu76 := Try.underlying76
 have HR0 := aM hr0
 have HC0 := aM hc0
 clear hr0 hc0
 have HB := aM (Below.refl w.heap.size w)
 have H : (spec_SetOk.l0 k l0 0) = some r := h
 clear h
 have H' := aM H
 clear H
 go_enter Try.func63, Try.ntmps63
 go_wp2
 go_loopg [3] k (fun kq v3 w' => ∃ (x3_1 : Int), v3 = .int .i64 x3_1 ∧ Aside0 (spec_SetOk.l0 kq l0 x3_1 = some r) ∧ Aside0 (kq ≤ k) ∧ Aside0 (Below w.heap.size w w'))
 case atStart => exact ⟨(0), rs_, H', ⟨Nat.le_refl _⟩, ⟨(bw HB)⟩⟩
 case round =>
  clear H'
  obtain ⟨x3_1, rfl, HA, HK1, HB⟩ := hrel
  cases gk with
  | zero => exact absurd HA.out (by simp [spec_SetOk.l0])
  | succ k1 =>
   have H := HA.out
   clear HA
   simp only [spec_SetOk.l0] at H
   by_cases c2 : x3_1 < (l0.length : Int)
   ·rw [if_pos c2] at H; have c2b0 : decide (x3_1 < (l0.length : Int)) = true := decide_eq_true c2; clear c2
    by_cases c3 : 0 ≤ x3_1
    ·rw [if_pos c3] at H; have c3b0 : decide (0 ≤ x3_1) = true := decide_eq_true c3; clear c3; replace H := bs_ H; obtain ⟨t257, A40, H⟩ := H; try dsimp only at H
     have A4 := aM A40
     clear A40
     by_cases c5 : t257 = true
     ·subst c5
      have H1 : (if x3_1 > 0 then (if 0 ≤ (wrap64 (x3_1 - 1)) then (if (wrap64 (x3_1 - 1)) < (l0.length : Int) then ((spec_Less.f ((rd_T76 l0 (wrap64 (x3_1 - 1))).f0) ((rd_T76 l0 x3_1).f0)).bind fun t260 => (if t260 = true then (spec_SetOk.l0 k1 l0 (wrap64 (x3_1 + 1))) else (some false))) else (none)) else (none)) else (spec_SetOk.l0 k1 l0 (wrap64 (x3_1 + 1)))) = some r := by rw [if_pos rfl] at H; exact H
      clear H
      have H := H1
      clear H1
      by_cases c6 : x3_1 > 0
      ·rw [if_pos c6] at H; have c6b0 : decide (0 < x3_1) = true := decide_eq_true c6; clear c6
       obtain ⟨ji7, hji7⟩ : ∃ j_ : Int, (wrap64 (x3_1 - 1)) = j_ := ⟨_, rfl⟩
       replace H : (if 0 ≤ (ji7) then (if (ji7) < (l0.length : Int) then ((spec_Less.f ((rd_T76 l0 (ji7)).f0) ((rd_T76 l0 x3_1).f0)).bind fun t260 => (if t260 = true then (spec_SetOk.l0 k1 l0 (wrap64 (x3_1 + 1))) else (some false))) else (none)) else (none)) = some r := by first | (rw [hji7] at H; exact H) | (simp only [hji7] at H ⊢; exact H)
       (try rw [hji7] at A4)
       have hji7w : (IntKind.i64.wrap (x3_1 - 1)) = ji7 := (i64_w _).trans hji7
       by_cases c8 : 0 ≤ (ji7)
       ·rw [if_pos c8] at H; have c8b0 : decide (0 ≤ (ji7)) = true := decide_eq_true c8; clear c8
        by_cases c9 : (ji7) < (l0.length : Int)
        ·rw [if_pos c9] at H; have c9b0 : decide ((ji7) < (l0.length : Int)) = true := decide_eq_true c9; clear c9; replace H := bs_ H; obtain ⟨t260, A100, H⟩ := H; try dsimp only at H
         have A10 := aM A100
         clear A100
         by_cases c11 : t260 = true
         ·subst c11
          have H1 : (spec_SetOk.l0 k1 l0 (wrap64 (x3_1 + 1))) = some r := by rw [if_pos rfl] at H; exact H
          clear H
          have H := H1
          clear H1
          have H' := aM H
          clear H
          try go_wp2
          replace HB := aM (below_drew1 HB.out)
          have p256 : 0 ≤ (x3_1 : Int) := of_decide_eq_true as_
          have q256 : x3_1 < (l0.length : Int) := of_decide_eq_true as_
          obtain ⟨ad256, e256, hx256_0, hx256_1⟩ := at_T76 HR0.out x3_1 p256 q256
          have hw256_1 := hx256_1
          have hw256_0 := hx256_0
          cases e256
          replace hx256_0 := cb HB hx256_0
          replace hx256_1 := cb HB hx256_1
          replace p256 := eq_true p256
          replace q256 := eq_true q256
          have p258 : 0 ≤ ((ji7) : Int) := of_decide_eq_true as_
          have q258 : (ji7) < (l0.length : Int) := of_decide_eq_true as_
          obtain ⟨ad258, e258, hx258_0, hx258_1⟩ := at_T76 HR0.out (ji7) p258 q258
          have hw258_1 := hx258_1
          have hw258_0 := hx258_0
          obtain rfl : ad256 = ad258 := (by injection e258)
          replace hx258_0 := cb HB hx258_0
          replace hx258_1 := cb HB hx258_1
          replace p258 := eq_true p258
          replace q258 := eq_true q258
          have p259 : 0 ≤ (x3_1 : Int) := of_decide_eq_true as_
          have q259 : x3_1 < (l0.length : Int) := of_decide_eq_true as_
          obtain ⟨ad259, e259, hx259_0, hx259_1⟩ := at_T76 HR0.out x3_1 p259 q259
          have hw259_1 := hx259_1
          have hw259_0 := hx259_0
          obtain rfl : ad256 = ad259 := (by injection e259)
          replace hx259_0 := cb HB hx259_0
          replace hx259_1 := cb HB hx259_1
          replace p259 := eq_true p259
          replace q259 := eq_true q259
          refine start_ (n := 25) (S := fun w' => w'.cell? (ad256.add ((x3_1).toNat * 2)) = some (.string ((rd_T76 l0 x3_1).f0)) ∧ w'.cell? ⟨(ad256.add ((x3_1).toNat * 2)).block, (ad256.add ((x3_1).toNat * 2)).off + 1, none⟩ = some (.string ((rd_T76 l0 x3_1).f1)) ∧ w'.cell? (ad256.add (((ji7)).toNat * 2)) = some (.string ((rd_T76 l0 (ji7)).f0)) ∧ w'.cell? ⟨(ad256.add (((ji7)).toNat * 2)).block, (ad256.add (((ji7)).toNat * 2)).off + 1, none⟩ = some (.string ((rd_T76 l0 (ji7)).f1)) ∧ w'.cell? (ad256.add ((x3_1).toNat * 2)) = some (.string ((rd_T76 l0 x3_1).f0)) ∧ w'.cell? ⟨(ad256.add ((x3_1).toNat * 2)).block, (ad256.add ((x3_1).toNat * 2)).off + 1, none⟩ = some (.string ((rd_T76 l0 x3_1).f1))) (ds := []) (bz 25 0) (by kernel_rfl) rfl (by kernel_rfl) ⟨(cB HB hw256_0), (cB HB hw256_1), (cB HB hw258_0), (cB HB hw258_1), (cB HB hw259_0), (cB HB hw259_1)⟩ (fun hHeld => ?_); refine with_tabW spec_SetOk.tab4 spec_SetOk.bits4 (fun HT_ HW_ => ?_)
          generalize wr.drew = w12 at HB hx256_0 hx256_1 hx258_0 hx258_1 hx259_0 hx259_1 hHeld ⊢
          refine (pu 0 (some 10) 1 ?_ ?_ HT_ ?_ ?_ ?_ (pu 1 (some 11) 3 ?_ ?_ HT_ ?_ ?_ ?_ (pu 2 (some 12) 7 ?_ ?_ HT_ ?_ ?_ ?_ (tk 3 (some 13) 15 ?_ ?_ HT_ HW_ hHeld ?_ ?_ ?_ ?_))))
          all_goals first | (rintro w' ⟨s0, s1, s2, s3, s4, s5⟩; go_simp; with_reducible rfl) | (intro w'; go_simp; with_reducible rfl) | (simp only [u6_]; rfl) | rfl | skip
          refine one_ (i := 4) (N := some 14) (bz 25 31) rfl rfl (one_of HT_.out (by kernel_rfl)) (by decide) (fun K hK => ?_)
          refine goes_ Try.func74 (by kernel_rfl) rfl #[.agg #[.string ((rd_T76 l0 x3_1).f0), .string ((rd_T76 l0 x3_1).f1)]] (by rfl) rfl rfl mp ?_
          with_reducible refine (spec_LabelOk.calls k1 ((rd_T76 l0 x3_1).f0) ((rd_T76 l0 x3_1).f1) true _ A4.out).mono ?_
          rintro e w13 ⟨rfl, hb⟩
          refine ⟨_, rfl, ?_⟩
          replace HB := aM (below_step (bw HB) hb)
          (try clear hb)
          (try clear hb2)
          (try clear hk)
          (try clear hi)
          refine hK.out _ _ ⟨(cB HB hw256_0), (cB HB hw256_1), (cB HB hw258_0), (cB HB hw258_1), (cB HB hw259_0), (cB HB hw259_1)⟩ (fun hHeld => ?_)
          clear hK K
          refine norm_ (a' := ?_) ?_ ?_
          rotate_left
          ·show Act.put _ (some 14) _ = _
           simp only [u6_]
           rfl
          refine (pu 5 (some 15) 63 ?_ ?_ HT_ ?_ ?_ ?_ (pu 6 (some 16) 127 ?_ ?_ HT_ ?_ ?_ ?_ (pu 7 (some 17) 255 ?_ ?_ HT_ ?_ ?_ ?_ (pu 8 (some 18) 511 ?_ ?_ HT_ ?_ ?_ ?_ (pu 9 (some 19) 1023 ?_ ?_ HT_ ?_ ?_ ?_ (pu 10 (some 20) 2047 ?_ ?_ HT_ ?_ ?_ ?_ (pu 11 (some 21) 4095 ?_ ?_ HT_ ?_ ?_ ?_ (pu 12 (some 22) 8191 ?_ ?_ HT_ ?_ ?_ ?_ (pu 13 (some 23) 16383 ?_ ?_ HT_ ?_ ?_ ?_ (pu 14 (some 24) 32767 ?_ ?_ HT_ ?_ ?_ ?_ (pu 16 (some 26) 98303 ?_ ?_ HT_ ?_ ?_ ?_ (pu 17 (some 27) 229375 ?_ ?_ HT_ ?_ ?_ ?_ (pu 18 (some 28) 491519 ?_ ?_ HT_ ?_ ?_ ?_ (pu 19 (some 29) 1015807 ?_ ?_ HT_ ?_ ?_ ?_ (tk 15 (some 25) 1048575 ?_ ?_ HT_ HW_ hHeld ?_ ?_ ?_ (tk 20 (some 30) 2097151 ?_ ?_ HT_ HW_ hHeld ?_ ?_ ?_ ?_))))))))))))))))
          all_goals first | (rintro w' ⟨s0, s1, s2, s3, s4, s5⟩; go_simp; with_reducible rfl) | (intro w'; go_simp; with_reducible rfl) | (simp only [u6_]; rfl) | rfl | skip
          refine one_ (i := 21) (N := some 31) (bz 25 4194303) rfl rfl (one_of HT_.out (by kernel_rfl)) (by decide) (fun K hK => ?_)
          refine goes_ Try.func75 (by kernel_rfl) rfl #[.string ((rd_T76 l0 (ji7)).f0), .string ((rd_T76 l0 x3_1).f0)] (by rfl) rfl rfl (by (try simp only [List.map_toArray, List.map_cons, List.map_nil]); first | done | (simp only [hji7]; rfl) | rfl | (simp only [List.length_drop, List.length_take]; rfl)) ?_
          with_reducible refine (spec_Less.calls ((rd_T76 l0 (ji7)).f0) ((rd_T76 l0 x3_1).f0) true _ A10.out).mono ?_
          rintro e w' ⟨rfl, ⟨nd, rfl⟩⟩
          refine ⟨_, rfl, ?_⟩
          refine hK.out _ _ ⟨(cB HB hw256_0), (cB HB hw256_1), (cB HB hw258_0), (cB HB hw258_1), (cB HB hw259_0), (cB HB hw259_1)⟩ (fun hHeld => ?_)
          clear hK K
          refine norm_ (a' := ?_) ?_ ?_
          rotate_left
          ·show Act.put _ (some 31) _ = _
           simp only [u6_]
           rfl
          refine (pu 22 (some 32) 8388607 ?_ ?_ HT_ ?_ ?_ ?_ (pu 23 (some 33) 16777215 ?_ ?_ HT_ ?_ ?_ ?_ (pu 24 (some 34) 33554431 ?_ ?_ HT_ ?_ ?_ ?_ ?_)))
          all_goals first | (intro w'; go_simp; with_reducible rfl) | (simp only [u6_]; rfl) | rfl | skip
          refine done_ (done_of HT_.out (by kernel_rfl)) ?_
          try go_wp2
          go_roundg k1
          case measure => have := HK1.out; omega
          case rel => exact ⟨(wrap64 (x3_1 + 1)), rs_, H', ⟨by have := HK1.out; omega⟩, ⟨(bw HB)⟩⟩
         ·replace c11 := Bool.eq_false_iff.mpr c11
          subst c11
          have H1 : (some false) = some r := by rw [if_neg (show ¬ (false = true) by decide)] at H; exact H
          clear H
          have H := H1
          clear H1
          obtain rfl := Option.some.inj H
          try go_wp2
          replace HB := aM (below_drew1 HB.out)
          have p256 : 0 ≤ (x3_1 : Int) := of_decide_eq_true as_
          have q256 : x3_1 < (l0.length : Int) := of_decide_eq_true as_
          obtain ⟨ad256, e256, hx256_0, hx256_1⟩ := at_T76 HR0.out x3_1 p256 q256
          have hw256_1 := hx256_1
          have hw256_0 := hx256_0
          cases e256
          replace hx256_0 := cb HB hx256_0
          replace hx256_1 := cb HB hx256_1
          replace p256 := eq_true p256
          replace q256 := eq_true q256
          have p258 : 0 ≤ ((ji7) : Int) := of_decide_eq_true as_
          have q258 : (ji7) < (l0.length : Int) := of_decide_eq_true as_
          obtain ⟨ad258, e258, hx258_0, hx258_1⟩ := at_T76 HR0.out (ji7) p258 q258
          have hw258_1 := hx258_1
          have hw258_0 := hx258_0
          obtain rfl : ad256 = ad258 := (by injection e258)
          replace hx258_0 := cb HB hx258_0
          replace hx258_1 := cb HB hx258_1
          replace p258 := eq_true p258
          replace q258 := eq_true q258
          have p259 : 0 ≤ (x3_1 : Int) := of_decide_eq_true as_
          have q259 : x3_1 < (l0.length : Int) := of_decide_eq_true as_
          obtain ⟨ad259, e259, hx259_0, hx259_1⟩ := at_T76 HR0.out x3_1 p259 q259
          have hw259_1 := hx259_1
          have hw259_0 := hx259_0
          obtain rfl : ad256 = ad259 := (by injection e259)
          replace hx259_0 := cb HB hx259_0
          replace hx259_1 := cb HB hx259_1
          replace p259 := eq_true p259
          replace q259 := eq_true q259
          refine start_ (n := 25) (S := fun w' => w'.cell? (ad256.add ((x3_1).toNat * 2)) = some (.string ((rd_T76 l0 x3_1).f0)) ∧ w'.cell? ⟨(ad256.add ((x3_1).toNat * 2)).block, (ad256.add ((x3_1).toNat * 2)).off + 1, none⟩ = some (.string ((rd_T76 l0 x3_1).f1)) ∧ w'.cell? (ad256.add (((ji7)).toNat * 2)) = some (.string ((rd_T76 l0 (ji7)).f0)) ∧ w'.cell? ⟨(ad256.add (((ji7)).toNat * 2)).block, (ad256.add (((ji7)).toNat * 2)).off + 1, none⟩ = some (.string ((rd_T76 l0 (ji7)).f1)) ∧ w'.cell? (ad256.add ((x3_1).toNat * 2)) = some (.string ((rd_T76 l0 x3_1).f0)) ∧ w'.cell? ⟨(ad256.add ((x3_1).toNat * 2)).block, (ad256.add ((x3_1).toNat * 2)).off + 1, none⟩ = some (.string ((rd_T76 l0 x3_1).f1))) (ds := []) (bz 25 0) (by kernel_rfl) rfl (by kernel_rfl) ⟨(cB HB hw256_0), (cB HB hw256_1), (cB HB hw258_0), (cB HB hw258_1), (cB HB hw259_0), (cB HB hw259_1)⟩ (fun hHeld => ?_); refine with_tabW spec_SetOk.tab4 spec_SetOk.bits4 (fun HT_ HW_ => ?_)
          generalize wr.drew = w14 at HB hx256_0 hx256_1 hx258_0 hx258_1 hx259_0 hx259_1 hHeld ⊢
          refine (pu 0 (some 10) 1 ?_ ?_ HT_ ?_ ?_ ?_ (pu 1 (some 11) 3 ?_ ?_ HT_ ?_ ?_ ?_ (pu 2 (some 12) 7 ?_ ?_ HT_ ?_ ?_ ?_ (tk 3 (some 13) 15 ?_ ?_ HT_ HW_ hHeld ?_ ?_ ?_ ?_))))
          all_goals first | (rintro w' ⟨s0, s1, s2, s3, s4, s5⟩; go_simp; with_reducible rfl) | (intro w'; go_simp; with_reducible rfl) | (simp only [u6_]; rfl) | rfl | skip
          refine one_ (i := 4) (N := some 14) (bz 25 31) rfl rfl (one_of HT_.out (by kernel_rfl)) (by decide) (fun K hK => ?_)
          refine goes_ Try.func74 (by kernel_rfl) rfl #[.agg #[.string ((rd_T76 l0 x3_1).f0), .string ((rd_T76 l0 x3_1).f1)]] (by rfl) rfl rfl mp ?_
          with_reducible refine (spec_LabelOk.calls k1 ((rd_T76 l0 x3_1).f0) ((rd_T76 l0 x3_1).f1) true _ A4.out).mono ?_
          rintro e w15 ⟨rfl, hb⟩
          refine ⟨_, rfl, ?_⟩
          replace HB := aM (below_step (bw HB) hb)
          (try clear hb)
          (try clear hb2)
          (try clear hk)
          (try clear hi)
          refine hK.out _ _ ⟨(cB HB hw256_0), (cB HB hw256_1), (cB HB hw258_0), (cB HB hw258_1), (cB HB hw259_0), (cB HB hw259_1)⟩ (fun hHeld => ?_)
          clear hK K
          refine norm_ (a' := ?_) ?_ ?_
          rotate_left
          ·show Act.put _ (some 14) _ = _
           simp only [u6_]
           rfl
          refine (pu 5 (some 15) 63 ?_ ?_ HT_ ?_ ?_ ?_ (pu 6 (some 16) 127 ?_ ?_ HT_ ?_ ?_ ?_ (pu 7 (some 17) 255 ?_ ?_ HT_ ?_ ?_ ?_ (pu 8 (some 18) 511 ?_ ?_ HT_ ?_ ?_ ?_ (pu 9 (some 19) 1023 ?_ ?_ HT_ ?_ ?_ ?_ (pu 10 (some 20) 2047 ?_ ?_ HT_ ?_ ?_ ?_ (pu 11 (some 21) 4095 ?_ ?_ HT_ ?_ ?_ ?_ (pu 12 (some 22) 8191 ?_ ?_ HT_ ?_ ?_ ?_ (pu 13 (some 23) 16383 ?_ ?_ HT_ ?_ ?_ ?_ (pu 14 (some 24) 32767 ?_ ?_ HT_ ?_ ?_ ?_ (pu 16 (some 26) 98303 ?_ ?_ HT_ ?_ ?_ ?_ (pu 17 (some 27) 229375 ?_ ?_ HT_ ?_ ?_ ?_ (pu 18 (some 28) 491519 ?_ ?_ HT_ ?_ ?_ ?_ (pu 19 (some 29) 1015807 ?_ ?_ HT_ ?_ ?_ ?_ (tk 15 (some 25) 1048575 ?_ ?_ HT_ HW_ hHeld ?_ ?_ ?_ (tk 20 (some 30) 2097151 ?_ ?_ HT_ HW_ hHeld ?_ ?_ ?_ ?_))))))))))))))))
          all_goals first | (rintro w' ⟨s0, s1, s2, s3, s4, s5⟩; go_simp; with_reducible rfl) | (intro w'; go_simp; with_reducible rfl) | (simp only [u6_]; rfl) | rfl | skip
          refine one_ (i := 21) (N := some 31) (bz 25 4194303) rfl rfl (one_of HT_.out (by kernel_rfl)) (by decide) (fun K hK => ?_)
          refine goes_ Try.func75 (by kernel_rfl) rfl #[.string ((rd_T76 l0 (ji7)).f0), .string ((rd_T76 l0 x3_1).f0)] (by rfl) rfl rfl (by (try simp only [List.map_toArray, List.map_cons, List.map_nil]); first | done | (simp only [hji7]; rfl) | rfl | (simp only [List.length_drop, List.length_take]; rfl)) ?_
          with_reducible refine (spec_Less.calls ((rd_T76 l0 (ji7)).f0) ((rd_T76 l0 x3_1).f0) false _ A10.out).mono ?_
          rintro e w' ⟨rfl, ⟨nd, rfl⟩⟩
          refine ⟨_, rfl, ?_⟩
          refine hK.out _ _ ⟨(cB HB hw256_0), (cB HB hw256_1), (cB HB hw258_0), (cB HB hw258_1), (cB HB hw259_0), (cB HB hw259_1)⟩ (fun hHeld => ?_)
          clear hK K
          refine norm_ (a' := ?_) ?_ ?_
          rotate_left
          ·show Act.put _ (some 31) _ = _
           simp only [u6_]
           rfl
          refine (pu 22 (some 32) 8388607 ?_ ?_ HT_ ?_ ?_ ?_ (pu 23 (some 33) 16777215 ?_ ?_ HT_ ?_ ?_ ?_ (pu 24 (some 34) 33554431 ?_ ?_ HT_ ?_ ?_ ?_ ?_)))
          all_goals first | (intro w'; go_simp; with_reducible rfl) | (simp only [u6_]; rfl) | rfl | skip
          refine done_ (done_of HT_.out (by kernel_rfl)) ?_
          try go_wp2
          go_ret
          exact ⟨by first | rfl | (simp [errW_none, errW_some] <;> rfl) | (simp only [← hji7]; first | rfl | (simp [errW_none, errW_some] <;> rfl)) | (simp [*, errW_none, errW_some] <;> rfl), (bw HB)⟩
        ·rw [if_neg c9] at H
         exact absurd H (by simp)
       ·rw [if_neg c8] at H
        exact absurd H (by simp)
      ·rw [if_neg c6] at H; have c6b0 : decide (0 < x3_1) = false := decide_eq_false c6; clear c6
       have H' := aM H
       clear H
       try go_wp2
       replace HB := aM (below_drew1 HB.out)
       have p256 : 0 ≤ (x3_1 : Int) := of_decide_eq_true as_
       have q256 : x3_1 < (l0.length : Int) := of_decide_eq_true as_
       obtain ⟨ad256, e256, hx256_0, hx256_1⟩ := at_T76 HR0.out x3_1 p256 q256
       have hw256_1 := hx256_1
       have hw256_0 := hx256_0
       cases e256
       replace hx256_0 := cb HB hx256_0
       replace hx256_1 := cb HB hx256_1
       replace p256 := eq_true p256
       replace q256 := eq_true q256
       refine start_ (n := 25) (S := fun w' => w'.cell? (ad256.add ((x3_1).toNat * 2)) = some (.string ((rd_T76 l0 x3_1).f0)) ∧ w'.cell? ⟨(ad256.add ((x3_1).toNat * 2)).block, (ad256.add ((x3_1).toNat * 2)).off + 1, none⟩ = some (.string ((rd_T76 l0 x3_1).f1))) (ds := []) (bz 25 0) (by kernel_rfl) rfl (by kernel_rfl) ⟨(cB HB hw256_0), (cB HB hw256_1)⟩ (fun hHeld => ?_); refine with_tabW spec_SetOk.tab4 spec_SetOk.bits4 (fun HT_ HW_ => ?_)
       generalize wr.drew = w16 at HB hx256_0 hx256_1 hHeld ⊢
       refine (pu 0 (some 10) 1 ?_ ?_ HT_ ?_ ?_ ?_ (pu 1 (some 11) 3 ?_ ?_ HT_ ?_ ?_ ?_ (pu 2 (some 12) 7 ?_ ?_ HT_ ?_ ?_ ?_ (tk 3 (some 13) 15 ?_ ?_ HT_ HW_ hHeld ?_ ?_ ?_ ?_))))
       all_goals first | (rintro w' ⟨s0, s1⟩; go_simp; with_reducible rfl) | (intro w'; go_simp; with_reducible rfl) | (simp only [u6_]; rfl) | rfl | skip
       refine one_ (i := 4) (N := some 14) (bz 25 31) rfl rfl (one_of HT_.out (by kernel_rfl)) (by decide) (fun K hK => ?_)
       refine goes_ Try.func74 (by kernel_rfl) rfl #[.agg #[.string ((rd_T76 l0 x3_1).f0), .string ((rd_T76 l0 x3_1).f1)]] (by rfl) rfl rfl mp ?_
       with_reducible refine (spec_LabelOk.calls k1 ((rd_T76 l0 x3_1).f0) ((rd_T76 l0 x3_1).f1) true _ A4.out).mono ?_
       rintro e w17 ⟨rfl, hb⟩
       refine ⟨_, rfl, ?_⟩
       replace HB := aM (below_step (bw HB) hb)
       (try clear hb)
       (try clear hb2)
       (try clear hk)
       (try clear hi)
       refine hK.out _ _ ⟨(cB HB hw256_0), (cB HB hw256_1)⟩ (fun hHeld => ?_)
       clear hK K
       refine norm_ (a' := ?_) ?_ ?_
       rotate_left
       ·show Act.put _ (some 14) _ = _
        simp only [u6_]
        rfl
       refine (pu 5 (some 15) 63 ?_ ?_ HT_ ?_ ?_ ?_ (pu 6 (some 16) 127 ?_ ?_ HT_ ?_ ?_ ?_ (pu 7 (some 17) 255 ?_ ?_ HT_ ?_ ?_ ?_ (pu 8 (some 18) 511 ?_ ?_ HT_ ?_ ?_ ?_ (pu 9 (some 19) 1023 ?_ ?_ HT_ ?_ ?_ ?_ (po 10 (some 20) 2047 ?_ HT_ ?_ ?_ (po 11 (some 21) 4095 ?_ HT_ ?_ ?_ (po 12 (some 22) 8191 ?_ HT_ ?_ ?_ (po 13 (some 23) 16383 ?_ HT_ ?_ ?_ (po 14 (some 24) 32767 ?_ HT_ ?_ ?_ (po 15 (some 25) 65535 ?_ HT_ ?_ ?_ (po 16 (some 26) 131071 ?_ HT_ ?_ ?_ (po 17 (some 27) 262143 ?_ HT_ ?_ ?_ (po 18 (some 28) 524287 ?_ HT_ ?_ ?_ (po 19 (some 29) 1048575 ?_ HT_ ?_ ?_ (po 20 (some 30) 2097151 ?_ HT_ ?_ ?_ (po 21 (some 31) 4194303 ?_ HT_ ?_ ?_ (po 22 (some 32) 8388607 ?_ HT_ ?_ ?_ (pu 23 (some 33) 16777215 ?_ ?_ HT_ ?_ ?_ ?_ (pu 24 (some 34) 33554431 ?_ ?_ HT_ ?_ ?_ ?_ ?_))))))))))))))))))))
       all_goals first | (intro w'; go_simp; with_reducible rfl) | (simp only [u6_]; rfl) | rfl | skip
       refine done_ (done_of HT_.out (by kernel_rfl)) ?_
       try go_wp2
       go_roundg k1
       case measure => have := HK1.out; omega
       case rel => exact ⟨(wrap64 (x3_1 + 1)), rs_, H', ⟨by have := HK1.out; omega⟩, ⟨(bw HB)⟩⟩
     ·replace c5 := Bool.eq_false_iff.mpr c5
      subst c5
      have H1 : (some false) = some r := by rw [if_neg (show ¬ (false = true) by decide)] at H; exact H
      clear H
      have H := H1
      clear H1
      obtain rfl := Option.some.inj H
      try go_wp2
      replace HB := aM (below_drew1 HB.out)
      have p256 : 0 ≤ (x3_1 : Int) := of_decide_eq_true as_
      have q256 : x3_1 < (l0.length : Int) := of_decide_eq_true as_
      obtain ⟨ad256, e256, hx256_0, hx256_1⟩ := at_T76 HR0.out x3_1 p256 q256
      have hw256_1 := hx256_1
      have hw256_0 := hx256_0
      cases e256
      replace hx256_0 := cb HB hx256_0
      replace hx256_1 := cb HB hx256_1
      replace p256 := eq_true p256
      replace q256 := eq_true q256
      refine start_ (n := 25) (S := fun w' => w'.cell? (ad256.add ((x3_1).toNat * 2)) = some (.string ((rd_T76 l0 x3_1).f0)) ∧ w'.cell? ⟨(ad256.add ((x3_1).toNat * 2)).block, (ad256.add ((x3_1).toNat * 2)).off + 1, none⟩ = some (.string ((rd_T76 l0 x3_1).f1))) (ds := []) (bz 25 0) (by kernel_rfl) rfl (by kernel_rfl) ⟨(cB HB hw256_0), (cB HB hw256_1)⟩ (fun hHeld => ?_); refine with_tabW spec_SetOk.tab4 spec_SetOk.bits4 (fun HT_ HW_ => ?_)
      generalize wr.drew = w18 at HB hx256_0 hx256_1 hHeld ⊢
      refine (pu 0 (some 10) 1 ?_ ?_ HT_ ?_ ?_ ?_ (pu 1 (some 11) 3 ?_ ?_ HT_ ?_ ?_ ?_ (pu 2 (some 12) 7 ?_ ?_ HT_ ?_ ?_ ?_ (tk 3 (some 13) 15 ?_ ?_ HT_ HW_ hHeld ?_ ?_ ?_ ?_))))
      all_goals first | (rintro w' ⟨s0, s1⟩; go_simp; with_reducible rfl) | (intro w'; go_simp; with_reducible rfl) | (simp only [u6_]; rfl) | rfl | skip
      refine one_ (i := 4) (N := some 14) (bz 25 31) rfl rfl (one_of HT_.out (by kernel_rfl)) (by decide) (fun K hK => ?_)
      refine goes_ Try.func74 (by kernel_rfl) rfl #[.agg #[.string ((rd_T76 l0 x3_1).f0), .string ((rd_T76 l0 x3_1).f1)]] (by rfl) rfl rfl mp ?_
      with_reducible refine (spec_LabelOk.calls k1 ((rd_T76 l0 x3_1).f0) ((rd_T76 l0 x3_1).f1) false _ A4.out).mono ?_
      rintro e w19 ⟨rfl, hb⟩
      refine ⟨_, rfl, ?_⟩
      replace HB := aM (below_step (bw HB) hb)
      (try clear hb)
      (try clear hb2)
      (try clear hk)
      (try clear hi)
      refine hK.out _ _ ⟨(cB HB hw256_0), (cB HB hw256_1)⟩ (fun hHeld => ?_)
      clear hK K
      refine norm_ (a' := ?_) ?_ ?_
      rotate_left
      ·show Act.put _ (some 14) _ = _
       simp only [u6_]
       rfl
      refine (pu 5 (some 15) 63 ?_ ?_ HT_ ?_ ?_ ?_ (pu 6 (some 16) 127 ?_ ?_ HT_ ?_ ?_ ?_ (po 7 (some 17) 255 ?_ HT_ ?_ ?_ (po 8 (some 18) 511 ?_ HT_ ?_ ?_ (po 9 (some 19) 1023 ?_ HT_ ?_ ?_ (po 10 (some 20) 2047 ?_ HT_ ?_ ?_ (po 11 (some 21) 4095 ?_ HT_ ?_ ?_ (po 12 (some 22) 8191 ?_ HT_ ?_ ?_ (po 13 (some 23) 16383 ?_ HT_ ?_ ?_ (po 14 (some 24) 32767 ?_ HT_ ?_ ?_ (po 15 (some 25) 65535 ?_ HT_ ?_ ?_ (po 16 (some 26) 131071 ?_ HT_ ?_ ?_ (po 17 (some 27) 262143 ?_ HT_ ?_ ?_ (po 18 (some 28) 524287 ?_ HT_ ?_ ?_ (po 19 (some 29) 1048575 ?_ HT_ ?_ ?_ (po 20 (some 30) 2097151 ?_ HT_ ?_ ?_ (po 21 (some 31) 4194303 ?_ HT_ ?_ ?_ (po 22 (some 32) 8388607 ?_ HT_ ?_ ?_ (po 23 (some 33) 16777215 ?_ HT_ ?_ ?_ (pu 24 (some 34) 33554431 ?_ ?_ HT_ ?_ ?_ ?_ ?_))))))))))))))))))))
      all_goals first | (intro w'; go_simp; with_reducible rfl) | (simp only [u6_]; rfl) | rfl | skip
      refine done_ (done_of HT_.out (by kernel_rfl)) ?_
      try go_wp2
      go_ret
      exact ⟨er, (bw HB)⟩
    ·rw [if_neg c3] at H
     exact absurd H (by simp)
   ·rw [if_neg c2] at H; have c2b0 : decide (x3_1 < (l0.length : Int)) = false := decide_eq_false c2; clear c2
    obtain rfl := Option.some.inj H
    go_wp2
    go_ret
    exact ⟨er, (bw HB)⟩

end Go.Proofs.Ytdhignbneeapiaa.PFnChains
