/- What the Go functions that FnChains reaches compute, as Lean functions, and that the machine's calls do so; no conditions. -/
import Derived.Test.YtdhignbneeapiaaPFnChainsx0
import Derived.Test.YtdhignbneeapiaaPFnChainsx2
import Derived.Test.YtdhignbneeapiaaPFnChainsx3
import Derived.Test.YtdhignbneeapiaaPFnChainsx10
import Derived.Test.YtdhignbneeapiaaPFnChainsx11
namespace Go.Proofs.Ytdhignbneeapiaa.PFnChains
open Go.Proofs.Ytdhignbneeapiaa
open Go.RowKit Go.Proofs.YtdhignbneeapiaaW.PrintWords Go.Proofs.YtdhignbneeapiaaW.PrintLast Go.Proofs.YtdhignbneeapiaaW.PrintMore
attribute [local go_sem] max2_int min2_int max_two min_two max_three min_three max_four min_four   -- for this text's walks alone
set_option linter.unusedVariables false
set_option linter.unusedSimpArgs false
set_option maxHeartbeats 8000000
set_option maxRecDepth 100000

/-! ### spec_DrawDropOver: function 10 -/
def spec_DrawDropOver.f (k : Nat) (l0 : List Int) : Option (Int × (List (S29)) × Int) := (spec_l1New.f k l0).bind fun bt601 => ((spec_l6Any.f k bt601.1 bt601.2.1 bt601.2.2).bind fun bt605 => ((spec_l1Int.f bt601.1 bt605.2.2.1 bt605.2.2.2 (([0, 3, 8, 12, 30, 100] : List Int))).bind fun bt614 => (some (bt605.1, bt605.2.1, bt614.1))))
theorem spec_DrawDropOver.calls (k : Nat) (A0 : Option Addr) (c0 : Nat) (l0 : List Int) (r1 : Int) (r2 : List (S29)) (r3 : Int) (w : World) (hr0 : Kd.C (Kd.int .u8) w A0 l0.length l0) (hc0 : l0.length ≤ c0) (h : spec_DrawDropOver.f k l0 = some (r1, r2, r3)) :
    Calls Try.prog 10 #[.slice A0 l0.length c0] w fun e w' => ∃ v1_ : Value, e = .returned (.tuple #[.agg #[.int .i64 r1, v1_], .int .i64 r3]) ∧ Kd.S k29 29 w' w.heap.size (fun _ => True) v1_ r2 ∧ Below w.heap.size w w' := by
  have hu26 := Try.underlying26
  have HR0 := aM hr0
  have HC0 := aM hc0
  clear hr0 hc0
  have HB := aM (Below.refl w.heap.size w)
  have H : ((spec_l1New.f k l0).bind fun bt601 => ((spec_l6Any.f k bt601.1 bt601.2.1 bt601.2.2).bind fun bt605 => ((spec_l1Int.f bt601.1 bt605.2.2.1 bt605.2.2.2 (([0, 3, 8, 12, 30, 100] : List Int))).bind fun bt614 => (some (bt605.1, bt605.2.1, bt614.1))))) = some (r1, r2, r3) := h
  clear h; replace H := bs_ H
  obtain ⟨⟨t601, t602, t603⟩, A20, H⟩ := H
  try dsimp only at H
  have A2 := aM A20
  clear A20; replace H := bs_ H
  obtain ⟨⟨t605, t606, t609, t610⟩, A30, H⟩ := H
  try dsimp only at H
  have A3 := aM A30
  clear A30
  obtain ⟨y611, hy611⟩ : ∃ y_ : List Int, y_ = (([0, 3, 8, 12, 30, 100] : List Int)) := ⟨_, rfl⟩
  replace H : ((spec_l1Int.f t601 t609 t610 y611).bind fun bt614 => (some (t605, t606, bt614.1))) = some (r1, r2, r3) := by first | (rw [hy611]; exact H) | exact H
  have Ny611 := aM hy611
  clear hy611; replace H := bs_ H
  obtain ⟨⟨t614, t615, t616⟩, A40, H⟩ := H
  try dsimp only at H
  have A4 := aM A40
  clear A40
  simp only [Option.some.injEq, Prod.mk.injEq] at H
  obtain ⟨rfl, rfl, rfl⟩ := H
  go_enter Try.func10, Try.ntmps10
  go_wp2_with (first | (refine be_ 2 #[.int .i64 0, .slice none 0 0] 26 ?_; intro gb600 hg w5 hbox hb; have BK600 := aM (hbox); have GW600 := gw hg (bw HB); have GE600 := gw hg (bw HB); replace HB := aM (below_step (bw HB) hb); clear hb hbox hg) | (refine gl_ (some 6) Try.func23 #[.slice A0 l0.length c0] ?_; (with_reducible refine (spec_l1New.calls k _ _ l0 t601 t602 t603 w _ ?side1 ?side2 ?side3 A2.out).mono ?_); (case side1 => exact bw HB); (case side2 => exact HR0.out); (case side3 => exact HC0.out); rintro e w6 ⟨g604, rfl, hi, hb, hb2⟩; refine ⟨_, rfl, ?_⟩; replace HB := aM (hb); have HI604 := aM (hi); have NB604_600 := aM (IsS67.ne_blk hi (blk_below (g := gb600) (aB BK600) hb2) (by decide)); have NB600_604 := aM (Ne.symm (IsS67.ne_blk hi (blk_below (g := gb600) (aB BK600) hb2) (by decide))); replace BK600 := aM (blk_below (g := gb600) (aB BK600) hb2); (try clear hb); (try clear hb2); (try clear hk); (try clear hi)) | (refine gl_ (some 8) Try.func24 #[.pointer (some ⟨g604, 0, none⟩)] ?_; (with_reducible refine (spec_l6Any.calls k g604 t601 t602 t603 t605 t606 t609 t610 w _ ?side1 ?side2 A3.out).mono ?_); (case side1 => repeat (first | (with_reducible first | exact HI604.out | apply IsS67.alloc | apply IsS67.drewN | apply IsS67.drew | apply IsS67.set_1 | apply IsS67.set_2 | refine IsS67.far ?_ NB604_600.out _) | exact HI604.out)); (case side2 => exact bw HB); rintro e w7 ⟨v607, rfl, ho0, hi, hb, hk⟩; refine ⟨_, rfl, ?_⟩; replace BK600 := aM (KeepBut.blk hk (g' := gb600) (aB BK600) NB600_604.out (by simp)); have HO608 := aM (Kd.S_lower ho0 (below_size (bw HB))); replace HB := aM (hb); replace HI604 := aM (hi); (try clear hb); (try clear hb2); (try clear hk); (try clear hi); (try clear ho0)) | ((with_reducible refine gate_dst (N := 10) rfl ?_); refine Kd.R_lit (Kd.int .i64) _ 3 rfl (N := 10) rfl (xs := ([0, 3, 8, 12, 30, 100] : List Int)) (inner := [.int .i64 0, .int .i64 3, .int .i64 8, .int .i64 12, .int .i64 30, .int .i64 100]) (ok := fun _ => True) (okp := fun _ => True) gs ?hp (fun _ hk => hk) trivial (Below.refl _ _) (Nat.le_refl _) (by simp) ?_; (case hp => exact (Reps.one (show Kd.M (Kd.int .i64) _ _ _ 0 [.int .i64 0] from rfl) (Reps.one (show Kd.M (Kd.int .i64) _ _ _ 3 [.int .i64 3] from rfl) (Reps.one (show Kd.M (Kd.int .i64) _ _ _ 8 [.int .i64 8] from rfl) (Reps.one (show Kd.M (Kd.int .i64) _ _ _ 12 [.int .i64 12] from rfl) (Reps.one (show Kd.M (Kd.int .i64) _ _ _ 30 [.int .i64 30] from rfl) (Reps.one (show Kd.M (Kd.int .i64) _ _ _ 100 [.int .i64 100] from rfl) (Reps.none _ _)))))))); intro v612 w8 ho9 hb hg_ hnew_; clear hg_ hnew_; (first | rw [← Ny611.out] at ho9 | (simp only [Int.reduceToNat] at ho9; rw [← Ny611.out] at ho9)); replace HO608 := aM (Kd.S_below (sS HO608.out) hb); have HO613 := aM (Kd.R_lower ho9 (below_size (bw HB))); replace BK600 := bb BK600 hb; replace HI604 := aM (IsS67.below (by repeat (first | (with_reducible first | exact HI604.out | apply IsS67.alloc | apply IsS67.drewN | apply IsS67.drew | apply IsS67.set_1 | apply IsS67.set_2 | refine IsS67.far ?_ NB604_600.out _) | exact HI604.out)) hb); replace HB := aM (below_step (bw HB) hb); clear hb ho9; obtain ⟨Ao10, co10, eo10⟩ := Kd.R_slice HO613.out; subst eo10) | (refine gl_ (some 11) Try.func33 #[.pointer (some ⟨g604, 0, none⟩), .slice Ao10 y611.length co10] ?_; (with_reducible refine (spec_l1Int.calls g604 t601 t609 t610 _ _ y611 t614 t615 t616 w _ ?side1 ?side2 ?side3 ?side4 ?side5 A4.out).mono ?_); (case side1 => repeat (first | (with_reducible first | exact HI604.out | apply IsS67.alloc | apply IsS67.drewN | apply IsS67.drew | apply IsS67.set_1 | apply IsS67.set_2 | refine IsS67.far ?_ NB604_600.out _) | exact HI604.out)); (case side2 => exact bw HB); (case side3 => exact cA ((Kd.R_reads' HO613.out).2.2)); (case side4 => exact (Kd.R_reads' HO613.out).2.1); (case side5 => exact far_slice (IsS67.own_ne HI604.out HO613.out (by decide))); rintro e w11 ⟨rfl, hi, hb, hk⟩; refine ⟨_, rfl, ?_⟩; replace BK600 := aM (KeepBut.blk hk (g' := gb600) (aB BK600) NB600_604.out (by simp)); replace HO608 := aM (Kd.S_mono (Kd.S_keep (IsS67.apartS (show IsS67 w _ g604 t601 t609 t610 from by repeat (first | (with_reducible first | exact HI604.out | apply IsS67.alloc | apply IsS67.drewN | apply IsS67.drew | apply IsS67.set_1 | apply IsS67.set_2 | refine IsS67.far ?_ NB604_600.out _) | exact HI604.out)) (sS HO608.out) (by decide)) hk (fun _ h => h.2)) (fun _ h => h.1)); replace HO613 := aM (Kd.R_mono (Kd.R_keep (IsS67.apart (show IsS67 w _ g604 t601 t609 t610 from by repeat (first | (with_reducible first | exact HI604.out | apply IsS67.alloc | apply IsS67.drewN | apply IsS67.drew | apply IsS67.set_1 | apply IsS67.set_2 | refine IsS67.far ?_ NB604_600.out _) | exact HI604.out)) (aR HO613) (by decide)) hk (fun _ h => h.2)) (fun _ h => h.1)); replace HB := aM (hb); replace HI604 := aM (hi); (try clear hb); (try clear hb2); (try clear hk); (try clear hi); have hnb12 := NB600_604.out; have hnc12 := NB604_600.out; obtain ⟨hcz13_0, hcz13_1⟩ := zc2 BK600; have hfz13_0 := zf BK600; obtain ⟨Ao14, co14, eo14⟩ := Kd.S_slice HO608.out; subst eo14))
  refine bodyPost_ret (results_ct rfl _ _ gb600 26 #[.int .i64 t605, .slice Ao14 t606.length co14] (0, 0) _ rfl (by refine blk_put (cs := #[.int .i64 t605, .slice none 0 0]) ?_ 1 _ rfl; refine blk_put (cs := #[.int .i64 0, .slice none 0 0]) ?_ 0 _ rfl; exact aB BK600) Try.underlying26 rfl (by kernel_rfl)) rfl ?_
  exact ⟨_, er, by (with_reducible repeat (first | apply Kd.S_alloc | apply Kd.S_drewN | apply Kd.S_drew)); exact Kd.S_mono (Kd.S_far (p := ⟨gb600, 1, none⟩) (Kd.S_far (p := ⟨gb600, 0, none⟩) (Kd.S_types HO608.out BK600.out (by decide)) (fun _ hk => hk.2) (.int .i64 t605)) (fun _ hk => hk.2) (.slice Ao14 t606.length co14)) (fun _ hk => trivial), (bw HB)⟩

/-! ### impl_Over: function 34 -/
def impl_Over.f (l0_0 : List (S76)) (a0_1 : Int) (a0_2 : Int) (a0_3 : ByteArray) (a1 : Int) : Option (Bool) := some (decide (a0_2 ≤ a1))
theorem impl_Over.calls (A0_0 : Option Addr) (c0_0 : Nat) (l0_0 : List (S76)) (a0_1 : Int) (a0_2 : Int) (a0_3 : ByteArray) (a1 : Int) (r : Bool) (w : World) (hr0_0 : Kd.C k76 w A0_0 l0_0.length l0_0) (hc0_0 : l0_0.length ≤ c0_0) (h : impl_Over.f l0_0 a0_1 a0_2 a0_3 a1 = some r) :
    Calls Try.prog 34 #[.agg #[.slice A0_0 l0_0.length c0_0, .int .i64 a0_1, .int .i64 a0_2, .string a0_3], .int .i64 a1] w fun e w' => e = .returned (.bool r) ∧ Below w.heap.size w w' := by
  have hu29 := Try.underlying29
  have HR0_0 := aM hr0_0
  have HC0_0 := aM hc0_0
  clear hr0_0 hc0_0
  have HB := aM (Below.refl w.heap.size w)
  have H : (some (decide (a0_2 ≤ a1))) = some r := h
  clear h
  obtain rfl := Option.some.inj H
  go_enter Try.func34, Try.ntmps34
  go_wp2_with (first | (refine be_ 2 #[.slice A0_0 l0_0.length c0_0, .int .i64 a0_1, .int .i64 a0_2, .string a0_3] 29 ?_; intro gb617 hg w3 hbox hb; have BK617 := aM (hbox); have GW617 := gw hg (bw HB); have GE617 := gw hg (bw HB); replace HB := aM (below_step (bw HB) hb); clear hb hbox hg; obtain ⟨hcz4_0, hcz4_1, hcz4_2, hcz4_3⟩ := zc4 BK617; have hfz4_0 := zf BK617))
  go_ret
  exact ⟨er, (bw HB)⟩

/-! ### spec_Over: function 35 -/
def spec_Over.f (l0_0 : List (S76)) (a0_1 : Int) (a0_2 : Int) (a0_3 : ByteArray) (a1 : Int) : Option (Bool) := some (decide (a0_2 ≤ a1))
theorem spec_Over.calls (A0_0 : Option Addr) (c0_0 : Nat) (l0_0 : List (S76)) (a0_1 : Int) (a0_2 : Int) (a0_3 : ByteArray) (a1 : Int) (r : Bool) (w : World) (hr0_0 : Kd.C k76 w A0_0 l0_0.length l0_0) (hc0_0 : l0_0.length ≤ c0_0) (h : spec_Over.f l0_0 a0_1 a0_2 a0_3 a1 = some r) :
    Calls Try.prog 35 #[.agg #[.slice A0_0 l0_0.length c0_0, .int .i64 a0_1, .int .i64 a0_2, .string a0_3], .int .i64 a1] w fun e w' => e = .returned (.bool r) ∧ Below w.heap.size w w' := by
  have hu29 := Try.underlying29
  have HR0_0 := aM hr0_0
  have HC0_0 := aM hc0_0
  clear hr0_0 hc0_0
  have HB := aM (Below.refl w.heap.size w)
  have H : (some (decide (a0_2 ≤ a1))) = some r := h
  clear h
  obtain rfl := Option.some.inj H
  go_enter Try.func35, Try.ntmps35
  go_wp2_with (first | (refine be_ 2 #[.slice A0_0 l0_0.length c0_0, .int .i64 a0_1, .int .i64 a0_2, .string a0_3] 29 ?_; intro gb642 hg w3 hbox hb; have BK642 := aM (hbox); have GW642 := gw hg (bw HB); have GE642 := gw hg (bw HB); replace HB := aM (below_step (bw HB) hb); clear hb hbox hg; obtain ⟨hcz4_0, hcz4_1, hcz4_2, hcz4_3⟩ := zc4 BK642; have hfz4_0 := zf BK642))
  go_ret
  exact ⟨er, (bw HB)⟩

/-! ### spec_DropOver: function 12 -/
def spec_DropOver.l0 : Nat → Int → List (S29) → Int → Int → List (S29) → Int → List (S29) → Option (Int × (List (S29)) × (List (S29)))
  | 0, _, _, _, _, _, _, _ => none
  | k + 1, x1, x7, x8, x644000, x644001, x649000, x649001 => if x8 < (x644001.length : Int) then (if 0 ≤ x8 then ((spec_l4Copy.f ((rd_T29 x644001 x8).f0) ((rd_T29 x644001 x8).f1) ((rd_T29 x644001 x8).f2) ((rd_T29 x644001 x8).f3)).bind fun bt653 => ((spec_Over.f bt653.1 bt653.2.1 bt653.2.2.1 bt653.2.2.2 x1).bind fun t660 => (if t660 = true then (if x7.length < 2513169434916 then (spec_DropOver.l0 k x1 (x7 ++ [(⟨bt653.1, bt653.2.1, bt653.2.2.1, bt653.2.2.2⟩ : S29)]) (wrap64 (x8 + 1)) x644000 x644001 x649000 x649001) else (none)) else (if x649001.length < 2513169434916 then (spec_DropOver.l0 k x1 x7 (wrap64 (x8 + 1)) x644000 x644001 x649000 (x649001 ++ [(⟨bt653.1, bt653.2.1, bt653.2.2.1, bt653.2.2.2⟩ : S29)])) else (none))))) else (none)) else (some (x649000, x649001, x7))
def spec_DropOver.f (k : Nat) (a0_0 : Int) (l0_1 : List (S29)) (a1 : Int) : Option (Int × (List (S29)) × (List (S29))) := spec_DropOver.l0 k a1 (([] : List (S29))) 0 a0_0 l0_1 a0_0 (([] : List (S29)))
theorem spec_DropOver.calls (k : Nat) (a0_0 : Int) (A0_1 : Option Addr) (c0_1 : Nat) (l0_1 : List (S29)) (a1 : Int) (r1 : Int) (r2 : List (S29)) (r3 : List (S29)) (w : World) (hr0_1 : Kd.C k29 w A0_1 l0_1.length l0_1) (hc0_1 : l0_1.length ≤ c0_1) (h : spec_DropOver.f k a0_0 l0_1 a1 = some (r1, r2, r3)) :
    Calls Try.prog 12 #[.agg #[.int .i64 a0_0, .slice A0_1 l0_1.length c0_1], .int .i64 a1] w fun e w' => ∃ v1_ v2_ : Value, e = .returned (.tuple #[.agg #[.int .i64 r1, v1_], v2_]) ∧ Kd.S k29 29 w' w.heap.size (fun k_ => some k_ ≠ (v2_ : Value).ownBlock) v1_ r2 ∧ Kd.S k29 29 w' w.heap.size (fun k_ => some k_ ≠ (v1_ : Value).ownBlock) v2_ r3 ∧ Below w.heap.size w w' := by
  have hu26 := Try.underlying26
  have hu29 := Try.underlying29
  have HR0_1 := aM hr0_1
  have HC0_1 := aM hc0_1
  clear hr0_1 hc0_1
  have HB := aM (Below.refl w.heap.size w)
  have H : (spec_DropOver.l0 k a1 (([] : List (S29))) 0 a0_0 l0_1 a0_0 (([] : List (S29)))) = some (r1, r2, r3) := h
  clear h
  obtain ⟨y645, hy645⟩ : ∃ y_ : List (S29), y_ = (([] : List (S29))) := ⟨_, rfl⟩
  replace H : (spec_DropOver.l0 k a1 (([] : List (S29))) 0 a0_0 l0_1 a0_0 y645) = some (r1, r2, r3) := by first | (rw [hy645]; exact H) | exact H
  have Ny645 := aM hy645
  clear hy645
  obtain ⟨y649, hy649⟩ : ∃ y_ : List (S29), y_ = (([] : List (S29))) := ⟨_, rfl⟩
  replace H : (spec_DropOver.l0 k a1 y649 0 a0_0 l0_1 a0_0 y645) = some (r1, r2, r3) := by first | (rw [hy649]; exact H) | exact H
  have Ny649 := aM hy649
  clear hy649
  have H' := aM H
  clear H
  go_enter Try.func12, Try.ntmps12
  go_wp2_with (first | (refine be_ 2 #[.int .i64 a0_0, .slice A0_1 l0_1.length c0_1] 26 ?_; intro gb643 hg w3 hbox hb; have BK643 := aM (hbox); have GW643 := gw hg (bw HB); have GE643 := gw hg (bw HB); replace HB := aM (below_step (bw HB) hb); clear hb hbox hg) | (refine be_ 4 #[.int .i64 0, .slice none 0 0] 26 ?_; intro gb644 hg w4 hbox hb; have BK644 := aM (hbox); have GW644 := gw hg (bw HB); have GE644 := gw hg (bw HB); replace HB := aM (below_step (bw HB) hb); have NB643_644 := nb1 hg BK643; have NB644_643 := nb2 hg BK643; replace BK643 := bb BK643 hb; clear hb hbox hg; have hnb5 := NB643_644.out; have hnc5 := NB644_643.out; obtain ⟨hcz6_0, hcz6_1⟩ := zc2 BK643; have hfz6_0 := zf BK643) | ((with_reducible refine gate_dst (N := 12) rfl ?_); refine Kd.S_lit k29 _ 29 rfl (N := 12) rfl (xs := ([] : List (S29))) (inner := []) (ok := fun _ => True) (okp := fun _ => True) gs ?hp (fun _ hk => hk) trivial (Below.refl _ _) (Nat.le_refl _) (by simp) ?_; (case hp => exact (Reps.none _ _)); intro v646 w7 ho8 hb hg_ hnew_; clear hg_ hnew_; (first | rw [← Ny645.out] at ho8 | (simp only [Int.reduceToNat] at ho8; rw [← Ny645.out] at ho8)); have HO647 := aM (Kd.S_lower ho8 (below_size (bw HB))); replace BK643 := bb BK643 hb; replace BK644 := bb BK644 hb; replace HB := aM (below_step (bw HB) hb); clear hb ho8; obtain ⟨Ao9, co9, eo9⟩ := Kd.S_slice HO647.out; subst eo9) | (refine be_ 6 #[.int .i64 0, .slice none 0 0] 26 ?_; intro gb648 hg w10 hbox hb; replace HO647 := aM (Kd.S_below (sS HO647.out) hb); have BK648 := aM (hbox); have GW648 := gw hg (bw HB); have GE648 := gw hg (bw HB); replace HB := aM (below_step (bw HB) hb); have NB643_648 := nb1 hg BK643; have NB648_643 := nb2 hg BK643; replace BK643 := bb BK643 hb; have NB644_648 := nb1 hg BK644; have NB648_644 := nb2 hg BK644; replace BK644 := bb BK644 hb; clear hb hbox hg; have hnb11 := NB648_643.out; have hnc11 := NB643_648.out; have hnb12 := NB648_644.out; have hnc12 := NB644_648.out; obtain ⟨hcz13_0, hcz13_1⟩ := zc2 BK648; have hfz13_0 := zf BK648) | ((with_reducible refine gate_dst (N := 14) rfl ?_); refine Kd.S_lit k29 _ 29 rfl (N := 14) rfl (xs := ([] : List (S29))) (inner := []) (ok := fun _ => True) (okp := fun _ => True) gs ?hp (fun _ hk => hk) trivial (Below.refl _ _) (Nat.le_refl _) (by simp) ?_; (case hp => exact (Reps.none _ _)); intro v650 w14 ho15 hb hg_ hnew_; clear hg_ hnew_; (first | rw [← Ny649.out] at ho15 | (simp only [Int.reduceToNat] at ho15; rw [← Ny649.out] at ho15)); have HO651 := aM (Kd.S_lower (Kd.S_new' ho15 (Kd.S_lt (by (with_reducible repeat (first | apply Kd.S_alloc | apply Kd.S_drewN | apply Kd.S_drew)); exact (Kd.S_mono (Kd.S_far (p := ⟨gb648, 1, none⟩) (Kd.S_far (p := ⟨gb648, 0, none⟩) (Kd.S_types HO647.out BK648.out (by decide)) (fun _ hk => hk.2) (.int .i64 a0_0)) (fun _ hk => hk.2) (.slice Ao9 y645.length co9)) (fun _ h_ => h_.1))))) (below_size (bw HB))); replace HO647 := aM (Kd.S_elder' (by (with_reducible repeat (first | apply Kd.S_alloc | apply Kd.S_drewN | apply Kd.S_drew)); exact (Kd.S_mono (Kd.S_far (p := ⟨gb648, 1, none⟩) (Kd.S_far (p := ⟨gb648, 0, none⟩) (Kd.S_types HO647.out BK648.out (by decide)) (fun _ hk => hk.2) (.int .i64 a0_0)) (fun _ hk => hk.2) (.slice Ao9 y645.length co9)) (fun _ h_ => h_.1))) (Kd.S_base ho15) hb); replace BK643 := aM (blk_below (g := gb643) (o := .cells #[.int .i64 a0_0, .slice A0_1 l0_1.length c0_1] 26 (0, 0)) (by refine blk_far ?_ NB643_648.out _; refine blk_far ?_ NB643_648.out _; exact aB BK643) hb); replace BK644 := aM (blk_below (g := gb644) (o := .cells #[.int .i64 0, .slice none 0 0] 26 (0, 0)) (by refine blk_far ?_ NB644_648.out _; refine blk_far ?_ NB644_648.out _; exact aB BK644) hb); replace BK648 := aM (blk_below (g := gb648) (o := .cells #[.int .i64 a0_0, .slice Ao9 y645.length co9] 26 (0, 0)) (by refine blk_put (cs := #[.int .i64 a0_0, .slice none 0 0]) ?_ 1 _ rfl; refine blk_put (cs := #[.int .i64 0, .slice none 0 0]) ?_ 0 _ rfl; exact aB BK648) hb); replace HB := aM (below_step (bw HB) hb); clear hb ho15))
  go_loopg [7, 8] k (fun kq v7 v8 w' => ∃ (x7_1 : List (S29)) (x8_1 : Int) (x649001_1 : List (S29)) (u649001 : Value), v8 = .int .i64 x8_1 ∧ Aside0 (spec_DropOver.l0 kq a1 x7_1 x8_1 a0_0 l0_1 a0_0 x649001_1 = some (r1, r2, r3)) ∧ Aside0 (kq ≤ k) ∧ Aside0 (Kd.S k29 29 w' w.heap.size (fun k_ => some k_ ≠ (u649001 : Value).ownBlock) v7 x7_1) ∧ Aside0 (Kd.S k29 29 w' w.heap.size (fun k_ => some k_ ≠ (v7 : Value).ownBlock) u649001 x649001_1) ∧ Aside0 (w'.heap[gb643]? = some (.cells #[.int .i64 a0_0, (.slice A0_1 l0_1.length c0_1)] 26 (0, 0))) ∧ Aside0 (w'.heap[gb644]? = some (.cells #[.int .i64 0, (.slice none 0 0)] 26 (0, 0))) ∧ Aside0 (w'.heap[gb648]? = some (.cells #[.int .i64 a0_0, u649001] 26 (0, 0))) ∧ Aside0 (Below w.heap.size w w'))
  case atStart => exact ⟨(y649), (0), (y645), (.slice Ao9 y645.length co9), rs_, H', ⟨Nat.le_refl _⟩, ⟨by (with_reducible repeat (first | apply Kd.S_alloc | apply Kd.S_drewN | apply Kd.S_drew)); exact Kd.S_mono HO651.out (fun _ hk => hk.2)⟩, ⟨by (with_reducible repeat (first | apply Kd.S_alloc | apply Kd.S_drewN | apply Kd.S_drew)); exact Kd.S_mono HO647.out (fun _ hk => hk.2)⟩, ⟨by exact aB BK643⟩, ⟨by exact aB BK644⟩, ⟨by exact aB BK648⟩, ⟨(bw HB)⟩⟩
  case round =>
    clear H'
    try clear c1
    try clear p2
    try clear c5
    try clear c11
    try clear c12
    try clear hcz13_0
    try clear hcz13_1
    try clear hcz6_0
    try clear hcz6_1
    try clear hfz13_0
    try clear hfz13_1
    try clear hfz6_0
    try clear hfz6_1
    obtain ⟨x7_1, x8_1, x649001_1, u649001, rfl, HA, HK1, HO_7, HO_649001, BK643, BK644, BK648, HB⟩ := hrel
    cases gk with
    | zero => exact absurd HA.out (by simp [spec_DropOver.l0])
    | succ k1 =>
      have H := HA.out
      clear HA
      simp only [spec_DropOver.l0] at H
      by_cases c16 : x8_1 < (l0_1.length : Int)
      · rw [if_pos c16] at H
        have c16b0 : decide (x8_1 < (l0_1.length : Int)) = true := decide_eq_true c16; clear c16
        by_cases c17 : 0 ≤ x8_1
        · rw [if_pos c17] at H
          have c17b0 : decide (0 ≤ x8_1) = true := decide_eq_true c17; clear c17; replace H := bs_ H
          obtain ⟨⟨t653, t656, t657, t658⟩, A180, H⟩ := H
          try dsimp only at H
          have A18 := aM A180
          clear A180; replace H := bs_ H; obtain ⟨t660, A190, H⟩ := H; try dsimp only at H
          have A19 := aM A190
          clear A190
          by_cases c20 : t660 = true
          · subst c20
            have H1 : (if x7_1.length < 2513169434916 then (spec_DropOver.l0 k1 a1 (x7_1 ++ [(⟨t653, t656, t657, t658⟩ : S29)]) (wrap64 (x8_1 + 1)) a0_0 l0_1 a0_0 x649001_1) else (none)) = some (r1, r2, r3) := by rw [if_pos rfl] at H; exact H
            clear H
            have H := H1
            clear H1
            by_cases c21 : x7_1.length < 2513169434916
            · rw [if_pos c21] at H
              have LMc21 := aM c21
              clear c21
              obtain ⟨y661, hy661⟩ : ∃ y_ : List (S29), y_ = (x7_1 ++ [(⟨t653, t656, t657, t658⟩ : S29)]) := ⟨_, rfl⟩
              replace H : (spec_DropOver.l0 k1 a1 y661 (wrap64 (x8_1 + 1)) a0_0 l0_1 a0_0 x649001_1) = some (r1, r2, r3) := by first | (rw [hy661]; exact H) | exact H
              have Ny661 := aM hy661
              clear hy661
              have H' := aM H
              clear H; have hnb22 := NB643_644.out; have hnc22 := NB644_643.out; have hnb23 := NB643_648.out; have hnc23 := NB648_643.out; obtain ⟨hcz24_0, hcz24_1⟩ := zc2 BK643; have hfz24_0 := zf BK643
              have p652 : 0 ≤ (x8_1 : Int) := of_decide_eq_true as_
              have q652 : x8_1 < (l0_1.length : Int) := of_decide_eq_true as_
              obtain ⟨ad652, A652_0, c652_0, e652, hx652_0, hx652_1, hx652_2, hx652_3, hl652_0, hi652_0⟩ := at_T29 HR0_1.out x8_1 p652 q652
              cases e652
              replace hx652_0 := cb HB hx652_0
              replace hx652_1 := cb HB hx652_1
              replace hx652_2 := cb HB hx652_2
              replace hx652_3 := cb HB hx652_3
              have HR652_0 := aM hi652_0
              have HC652_0 := aM hl652_0
              clear hi652_0 hl652_0
              replace p652 := eq_true p652
              replace q652 := eq_true q652
              go_wp2_with (first | (refine gl_ (some 27) Try.func31 #[.agg #[.slice A652_0 ((rd_T29 l0_1 x8_1).f0).length c652_0, .int .i64 ((rd_T29 l0_1 x8_1).f1), .int .i64 ((rd_T29 l0_1 x8_1).f2), .string ((rd_T29 l0_1 x8_1).f3)]] ?_; (with_reducible refine (spec_l4Copy.calls _ _ ((rd_T29 l0_1 x8_1).f0) ((rd_T29 l0_1 x8_1).f1) ((rd_T29 l0_1 x8_1).f2) ((rd_T29 l0_1 x8_1).f3) t653 t656 t657 t658 _ ?side1 ?side2 A18.out).mono ?_); (case side1 => exact cA (Kd.C_below HR652_0.out HB.out)); (case side2 => exact HC652_0.out); rintro e w25 ⟨v654, rfl, ho0, hb⟩; refine ⟨_, rfl, ?_⟩; replace HO_7 := aM (Kd.S_elder' (sS HO_7.out) (Kd.R_base ho0) hb); replace HO_649001 := aM (Kd.S_elder' (sS HO_649001.out) (Kd.R_base ho0) hb); have HO655 := aM (Kd.R_lower ho0 (below_size (bw HB))); replace BK643 := bb BK643 hb; replace BK644 := bb BK644 hb; replace BK648 := bb BK648 hb; replace HB := aM (below_step (bw HB) hb); (try clear hb); (try clear hb2); (try clear hk); (try clear hi); (try clear ho0)) | (refine be_ 9 #[.slice none 0 0, .int .i64 0, .int .i64 0, .string (⟨#[]⟩ : ByteArray)] 29 ?_; intro gb659 hg w26 hbox hb; replace HO_7 := aM (Kd.S_below (Kd.S_elderB (sS HO_7.out) gb659 (Nat.le_of_eq hg.symm)) hb); replace HO_649001 := aM (Kd.S_below (Kd.S_elderB (sS HO_649001.out) gb659 (Nat.le_of_eq hg.symm)) hb); replace HO655 := rb HO655 hb; have BK659 := aM (hbox); have GW659 := gw hg (bw HB); have GE659 := gw hg (bw HB); replace HB := aM (below_step (bw HB) hb); have NB643_659 := nb1 hg BK643; have NB659_643 := nb2 hg BK643; replace BK643 := bb BK643 hb; have NB644_659 := nb1 hg BK644; have NB659_644 := nb2 hg BK644; replace BK644 := bb BK644 hb; have NB648_659 := nb1 hg BK648; have NB659_648 := nb2 hg BK648; replace BK648 := bb BK648 hb; clear hb hbox hg; obtain ⟨Ao27, co27, eo27⟩ := Kd.R_slice HO655.out; subst eo27; have hnb28 := NB659_643.out; have hnc28 := NB643_659.out; have hnb29 := NB659_644.out; have hnc29 := NB644_659.out; have hnb30 := NB659_648.out; have hnc30 := NB648_659.out; obtain ⟨hcz31_0, hcz31_1, hcz31_2, hcz31_3⟩ := zc4 BK659; have hfz31_0 := zf BK659) | (refine gl_ (some 30) Try.func35 #[.agg #[.slice Ao27 t653.length co27, .int .i64 t656, .int .i64 t657, .string t658], .int .i64 a1] ?_; (with_reducible refine (spec_Over.calls _ _ t653 t656 t657 t658 a1 true _ ?side1 ?side2 A19.out).mono ?_); (case side1 => refine (Kd.R_reads' (e := 76) (base := w.heap.size) (ok := fun k_ => True) (n := t653.length) (c := co27) ?_).2.2; exact (by (with_reducible repeat (first | apply aR1 | apply aR2 | apply aR3)); exact (Kd.R_mono (Kd.R_far (p := ⟨gb659, 3, none⟩) (Kd.R_far (p := ⟨gb659, 2, none⟩) (Kd.R_far (p := ⟨gb659, 1, none⟩) (Kd.R_far (p := ⟨gb659, 0, none⟩) (Kd.R_types HO655.out BK659.out (by decide)) (fun _ hk => hk.2) (.slice Ao27 t653.length co27)) (fun _ hk => hk.2) (.int .i64 t656)) (fun _ hk => hk.2) (.int .i64 t657)) (fun _ hk => hk.2) (.string t658)) (fun _ h_ => h_.1)))); (case side2 => exact (Kd.R_reads' HO655.out).2.1); rintro e w32 ⟨rfl, hb⟩; refine ⟨_, rfl, ?_⟩; replace HO_7 := aM (Kd.S_below (by (with_reducible repeat (first | apply Kd.S_alloc | apply Kd.S_drewN | apply Kd.S_drew)); exact (Kd.S_mono (Kd.S_far (p := ⟨gb659, 3, none⟩) (Kd.S_far (p := ⟨gb659, 2, none⟩) (Kd.S_far (p := ⟨gb659, 1, none⟩) (Kd.S_far (p := ⟨gb659, 0, none⟩) (Kd.S_mono HO_7.out (fun k_ hk => (⟨hk, hk.2⟩ : _ ∧ k_ ≠ gb659))) (fun _ hk => hk.2) (.slice Ao27 t653.length co27)) (fun _ hk => hk.2) (.int .i64 t656)) (fun _ hk => hk.2) (.int .i64 t657)) (fun _ hk => hk.2) (.string t658)) (fun _ h_ => h_.1))) hb); replace HO_649001 := aM (Kd.S_below (by (with_reducible repeat (first | apply Kd.S_alloc | apply Kd.S_drewN | apply Kd.S_drew)); exact (Kd.S_mono (Kd.S_far (p := ⟨gb659, 3, none⟩) (Kd.S_far (p := ⟨gb659, 2, none⟩) (Kd.S_far (p := ⟨gb659, 1, none⟩) (Kd.S_far (p := ⟨gb659, 0, none⟩) (Kd.S_mono HO_649001.out (fun k_ hk => (⟨hk, hk.2⟩ : _ ∧ k_ ≠ gb659))) (fun _ hk => hk.2) (.slice Ao27 t653.length co27)) (fun _ hk => hk.2) (.int .i64 t656)) (fun _ hk => hk.2) (.int .i64 t657)) (fun _ hk => hk.2) (.string t658)) (fun _ h_ => h_.1))) hb); replace HO655 := aM (Kd.R_below (by (with_reducible repeat (first | apply aR1 | apply aR2 | apply aR3)); exact (Kd.R_mono (Kd.R_far (p := ⟨gb659, 3, none⟩) (Kd.R_far (p := ⟨gb659, 2, none⟩) (Kd.R_far (p := ⟨gb659, 1, none⟩) (Kd.R_far (p := ⟨gb659, 0, none⟩) (Kd.R_types HO655.out BK659.out (by decide)) (fun _ hk => hk.2) (.slice Ao27 t653.length co27)) (fun _ hk => hk.2) (.int .i64 t656)) (fun _ hk => hk.2) (.int .i64 t657)) (fun _ hk => hk.2) (.string t658)) (fun _ h_ => h_.1))) hb); replace BK643 := aM (blk_below (g := gb643) (o := .cells #[.int .i64 a0_0, .slice (some ad652) l0_1.length c0_1] 26 (0, 0)) (by refine blk_far ?_ NB643_659.out _; refine blk_far ?_ NB643_659.out _; refine blk_far ?_ NB643_659.out _; refine blk_far ?_ NB643_659.out _; exact aB BK643) hb); replace BK644 := aM (blk_below (g := gb644) (o := .cells #[.int .i64 0, .slice none 0 0] 26 (0, 0)) (by refine blk_far ?_ NB644_659.out _; refine blk_far ?_ NB644_659.out _; refine blk_far ?_ NB644_659.out _; refine blk_far ?_ NB644_659.out _; exact aB BK644) hb); replace BK648 := aM (blk_below (g := gb648) (o := .cells #[.int .i64 a0_0, u649001] 26 (0, 0)) (by refine blk_far ?_ NB648_659.out _; refine blk_far ?_ NB648_659.out _; refine blk_far ?_ NB648_659.out _; refine blk_far ?_ NB648_659.out _; exact aB BK648) hb); replace BK659 := aM (blk_below (g := gb659) (o := .cells #[.slice Ao27 t653.length co27, .int .i64 t656, .int .i64 t657, .string t658] 29 (0, 0)) (by refine blk_put (cs := #[.slice Ao27 t653.length co27, .int .i64 t656, .int .i64 t657, .string (⟨#[]⟩ : ByteArray)]) ?_ 3 _ rfl; refine blk_put (cs := #[.slice Ao27 t653.length co27, .int .i64 t656, .int .i64 0, .string (⟨#[]⟩ : ByteArray)]) ?_ 2 _ rfl; refine blk_put (cs := #[.slice Ao27 t653.length co27, .int .i64 0, .int .i64 0, .string (⟨#[]⟩ : ByteArray)]) ?_ 1 _ rfl; refine blk_put (cs := #[.slice none 0 0, .int .i64 0, .int .i64 0, .string (⟨#[]⟩ : ByteArray)]) ?_ 0 _ rfl; exact aB BK659) hb); replace HB := aM (below_step (bw HB) hb); (try clear hb); (try clear hb2); (try clear hk); (try clear hi); obtain ⟨hcz33_0, hcz33_1, hcz33_2, hcz33_3⟩ := zc4 BK659; have hfz33_0 := zf BK659) | ((with_reducible refine gate_builtin (b := .append) (xs := #[.tmp 31, .tmp 33]) rfl ?_); at_builtin; refine Kd.S_append k29 (w0 := w) w.heap.size rfl (.tmp 31) (.tmp 33) 24 29 (.agg #[(.slice none 0 0), (.int .i64 0), (.int .i64 0), (.string ⟨#[]⟩)]) 56 rfl Try.underlying24 info29 rfl (by decide) (by omega) u7 x7_1 (⟨t653, t656, t657, t658⟩ : S29) [.slice Ao27 t653.length co27, .int .i64 t656, .int .i64 t657, .string t658] (fun k_ => some k_ ≠ (u649001 : Value).ownBlock ∧ k_ ≠ gb659) (fun k_ => some k_ = (.slice Ao27 t653.length co27 : Value).ownBlock) rfl rfl ?aP (fun k_ hk_ => ((Kd.R_mono (ok' := fun k_ => ((fun k_ => some k_ ≠ (u649001 : Value).ownBlock ∧ k_ ≠ gb659)) k_ ∧ some k_ ≠ (u7 : Value).ownBlock) (Kd.R_types (Kd.R_apart' (Kd.R_apart' (HO655.out) (Kd.S_typed HO_649001.out) (by decide)) (Kd.S_typed HO_7.out) (by decide)) BK659.out (by decide)) (fun k_ hk => ⟨⟨hk.1.1.2, hk.2⟩, hk.1.2⟩))).1 k_ hk_.symm) ?aF ?aO ?aB ?aS ?aL ?_; (case aP => exact k29_mkM _ _ _ (⟨t653, t656, t657, t658⟩ : S29) (Kd.R_mono (Kd.R_tight rfl (Kd.R_mono (ok' := fun k_ => ((fun k_ => some k_ ≠ (u649001 : Value).ownBlock ∧ k_ ≠ gb659)) k_ ∧ some k_ ≠ (u7 : Value).ownBlock) (Kd.R_types (Kd.R_apart' (Kd.R_apart' (HO655.out) (Kd.S_typed HO_649001.out) (by decide)) (Kd.S_typed HO_7.out) (by decide)) BK659.out (by decide)) (fun k_ hk => ⟨⟨hk.1.1.2, hk.2⟩, hk.1.2⟩))) (fun _ h_ => h_))); (case aB => exact (bw HB)); (case aF => exact (fun k_ hk => ⟨Kd.fresh' (Kd.S_lt (sS HO_649001.out)) k_ hk, Kd.freshB (g := gb659) (aB BK659) k_ hk⟩)); (case aO => exact (by (with_reducible repeat (first | apply Kd.S_alloc | apply Kd.S_drewN | apply Kd.S_drew)); exact Kd.S_mono HO_7.out (fun k_ hk => ⟨⟨hk.1.1, hk.2⟩, fun e_ => hk.1.2 e_⟩))); (case aS => exact (below_size (bw HB))); (case aL => have := LMc21.out; omega); intro v662 w34 ho hb hg hat; rw [← Ny661.out] at ho; replace HO_649001 := aM (Kd.S_after (ok := (fun k_ => some k_ ≠ (.slice Ao27 t653.length co27 : Value).ownBlock ∧ k_ ≠ gb659)) (by (with_reducible repeat (first | apply Kd.S_alloc | apply Kd.S_drewN | apply Kd.S_drew)); exact Kd.S_mono HO_649001.out (fun _ hk => ⟨⟨hk.1.2, hk.2⟩, hk.1.1⟩)) hg hat); replace BK643 := aM (blk_grown (g := gb643) (aB BK643) hg (Kd.S_ne HO_7.out BK643.out (by decide))); replace BK644 := aM (blk_grown (g := gb644) (aB BK644) hg (Kd.S_ne HO_7.out BK644.out (by decide))); replace BK648 := aM (blk_grown (g := gb648) (aB BK648) hg (Kd.S_ne HO_7.out BK648.out (by decide))); replace BK659 := aM (blk_grown (g := gb659) (aB BK659) hg (Kd.S_away HO_7.out (fun _ hk => hk.2))); replace HB := aM (hb); have HO663 := aM (ho); clear HO_7 HO655 ho hb hg hat))
              go_roundg k1
              case measure => have := HK1.out; omega
              case rel => exact ⟨(y661), (wrap64 (x8_1 + 1)), (x649001_1), (u649001), rs_, H', ⟨by have := HK1.out; omega⟩, ⟨by (with_reducible repeat (first | apply Kd.S_alloc | apply Kd.S_drewN | apply Kd.S_drew)); exact Kd.S_mono HO663.out (fun _ hk => hk.1)⟩, ⟨by (with_reducible repeat (first | apply Kd.S_alloc | apply Kd.S_drewN | apply Kd.S_drew)); exact Kd.S_mono HO_649001.out (fun _ hk => hk.2)⟩, ⟨by exact aB BK643⟩, ⟨by exact aB BK644⟩, ⟨by exact aB BK648⟩, ⟨(bw HB)⟩⟩
            · rw [if_neg c21] at H
              exact absurd H (by simp)
          · replace c20 := Bool.eq_false_iff.mpr c20
            subst c20
            have H1 : (if x649001_1.length < 2513169434916 then (spec_DropOver.l0 k1 a1 x7_1 (wrap64 (x8_1 + 1)) a0_0 l0_1 a0_0 (x649001_1 ++ [(⟨t653, t656, t657, t658⟩ : S29)])) else (none)) = some (r1, r2, r3) := by rw [if_neg (show ¬ (false = true) by decide)] at H; exact H
            clear H
            have H := H1
            clear H1
            by_cases c35 : x649001_1.length < 2513169434916
            · rw [if_pos c35] at H
              have LMc35 := aM c35
              clear c35
              obtain ⟨y664, hy664⟩ : ∃ y_ : List (S29), y_ = (x649001_1 ++ [(⟨t653, t656, t657, t658⟩ : S29)]) := ⟨_, rfl⟩
              replace H : (spec_DropOver.l0 k1 a1 x7_1 (wrap64 (x8_1 + 1)) a0_0 l0_1 a0_0 y664) = some (r1, r2, r3) := by first | (rw [hy664]; exact H) | exact H
              have Ny664 := aM hy664
              clear hy664
              have H' := aM H
              clear H; have hnb36 := NB643_644.out; have hnc36 := NB644_643.out; have hnb37 := NB643_648.out; have hnc37 := NB648_643.out; obtain ⟨hcz38_0, hcz38_1⟩ := zc2 BK643; have hfz38_0 := zf BK643
              have p652 : 0 ≤ (x8_1 : Int) := of_decide_eq_true as_
              have q652 : x8_1 < (l0_1.length : Int) := of_decide_eq_true as_
              obtain ⟨ad652, A652_0, c652_0, e652, hx652_0, hx652_1, hx652_2, hx652_3, hl652_0, hi652_0⟩ := at_T29 HR0_1.out x8_1 p652 q652
              cases e652
              replace hx652_0 := cb HB hx652_0
              replace hx652_1 := cb HB hx652_1
              replace hx652_2 := cb HB hx652_2
              replace hx652_3 := cb HB hx652_3
              have HR652_0 := aM hi652_0
              have HC652_0 := aM hl652_0
              clear hi652_0 hl652_0
              replace p652 := eq_true p652
              replace q652 := eq_true q652
              go_wp2_with (first | (refine gl_ (some 27) Try.func31 #[.agg #[.slice A652_0 ((rd_T29 l0_1 x8_1).f0).length c652_0, .int .i64 ((rd_T29 l0_1 x8_1).f1), .int .i64 ((rd_T29 l0_1 x8_1).f2), .string ((rd_T29 l0_1 x8_1).f3)]] ?_; (with_reducible refine (spec_l4Copy.calls _ _ ((rd_T29 l0_1 x8_1).f0) ((rd_T29 l0_1 x8_1).f1) ((rd_T29 l0_1 x8_1).f2) ((rd_T29 l0_1 x8_1).f3) t653 t656 t657 t658 _ ?side1 ?side2 A18.out).mono ?_); (case side1 => exact cA (Kd.C_below HR652_0.out HB.out)); (case side2 => exact HC652_0.out); rintro e w39 ⟨v654, rfl, ho0, hb⟩; refine ⟨_, rfl, ?_⟩; replace HO_7 := aM (Kd.S_elder' (sS HO_7.out) (Kd.R_base ho0) hb); replace HO_649001 := aM (Kd.S_elder' (sS HO_649001.out) (Kd.R_base ho0) hb); have HO655 := aM (Kd.R_lower ho0 (below_size (bw HB))); replace BK643 := bb BK643 hb; replace BK644 := bb BK644 hb; replace BK648 := bb BK648 hb; replace HB := aM (below_step (bw HB) hb); (try clear hb); (try clear hb2); (try clear hk); (try clear hi); (try clear ho0)) | (refine be_ 9 #[.slice none 0 0, .int .i64 0, .int .i64 0, .string (⟨#[]⟩ : ByteArray)] 29 ?_; intro gb659 hg w40 hbox hb; replace HO_7 := aM (Kd.S_below (Kd.S_elderB (sS HO_7.out) gb659 (Nat.le_of_eq hg.symm)) hb); replace HO_649001 := aM (Kd.S_below (Kd.S_elderB (sS HO_649001.out) gb659 (Nat.le_of_eq hg.symm)) hb); replace HO655 := rb HO655 hb; have BK659 := aM (hbox); have GW659 := gw hg (bw HB); have GE659 := gw hg (bw HB); replace HB := aM (below_step (bw HB) hb); have NB643_659 := nb1 hg BK643; have NB659_643 := nb2 hg BK643; replace BK643 := bb BK643 hb; have NB644_659 := nb1 hg BK644; have NB659_644 := nb2 hg BK644; replace BK644 := bb BK644 hb; have NB648_659 := nb1 hg BK648; have NB659_648 := nb2 hg BK648; replace BK648 := bb BK648 hb; clear hb hbox hg; obtain ⟨Ao41, co41, eo41⟩ := Kd.R_slice HO655.out; subst eo41; have hnb42 := NB659_643.out; have hnc42 := NB643_659.out; have hnb43 := NB659_644.out; have hnc43 := NB644_659.out; have hnb44 := NB659_648.out; have hnc44 := NB648_659.out; obtain ⟨hcz45_0, hcz45_1, hcz45_2, hcz45_3⟩ := zc4 BK659; have hfz45_0 := zf BK659) | (refine gl_ (some 30) Try.func35 #[.agg #[.slice Ao41 t653.length co41, .int .i64 t656, .int .i64 t657, .string t658], .int .i64 a1] ?_; (with_reducible refine (spec_Over.calls _ _ t653 t656 t657 t658 a1 false _ ?side1 ?side2 A19.out).mono ?_); (case side1 => refine (Kd.R_reads' (e := 76) (base := w.heap.size) (ok := fun k_ => True) (n := t653.length) (c := co41) ?_).2.2; exact (by (with_reducible repeat (first | apply aR1 | apply aR2 | apply aR3)); exact (Kd.R_mono (Kd.R_far (p := ⟨gb659, 3, none⟩) (Kd.R_far (p := ⟨gb659, 2, none⟩) (Kd.R_far (p := ⟨gb659, 1, none⟩) (Kd.R_far (p := ⟨gb659, 0, none⟩) (Kd.R_types HO655.out BK659.out (by decide)) (fun _ hk => hk.2) (.slice Ao41 t653.length co41)) (fun _ hk => hk.2) (.int .i64 t656)) (fun _ hk => hk.2) (.int .i64 t657)) (fun _ hk => hk.2) (.string t658)) (fun _ h_ => h_.1)))); (case side2 => exact (Kd.R_reads' HO655.out).2.1); rintro e w46 ⟨rfl, hb⟩; refine ⟨_, rfl, ?_⟩; replace HO_7 := aM (Kd.S_below (by (with_reducible repeat (first | apply Kd.S_alloc | apply Kd.S_drewN | apply Kd.S_drew)); exact (Kd.S_mono (Kd.S_far (p := ⟨gb659, 3, none⟩) (Kd.S_far (p := ⟨gb659, 2, none⟩) (Kd.S_far (p := ⟨gb659, 1, none⟩) (Kd.S_far (p := ⟨gb659, 0, none⟩) (Kd.S_mono HO_7.out (fun k_ hk => (⟨hk, hk.2⟩ : _ ∧ k_ ≠ gb659))) (fun _ hk => hk.2) (.slice Ao41 t653.length co41)) (fun _ hk => hk.2) (.int .i64 t656)) (fun _ hk => hk.2) (.int .i64 t657)) (fun _ hk => hk.2) (.string t658)) (fun _ h_ => h_.1))) hb); replace HO_649001 := aM (Kd.S_below (by (with_reducible repeat (first | apply Kd.S_alloc | apply Kd.S_drewN | apply Kd.S_drew)); exact (Kd.S_mono (Kd.S_far (p := ⟨gb659, 3, none⟩) (Kd.S_far (p := ⟨gb659, 2, none⟩) (Kd.S_far (p := ⟨gb659, 1, none⟩) (Kd.S_far (p := ⟨gb659, 0, none⟩) (Kd.S_mono HO_649001.out (fun k_ hk => (⟨hk, hk.2⟩ : _ ∧ k_ ≠ gb659))) (fun _ hk => hk.2) (.slice Ao41 t653.length co41)) (fun _ hk => hk.2) (.int .i64 t656)) (fun _ hk => hk.2) (.int .i64 t657)) (fun _ hk => hk.2) (.string t658)) (fun _ h_ => h_.1))) hb); replace HO655 := aM (Kd.R_below (by (with_reducible repeat (first | apply aR1 | apply aR2 | apply aR3)); exact (Kd.R_mono (Kd.R_far (p := ⟨gb659, 3, none⟩) (Kd.R_far (p := ⟨gb659, 2, none⟩) (Kd.R_far (p := ⟨gb659, 1, none⟩) (Kd.R_far (p := ⟨gb659, 0, none⟩) (Kd.R_types HO655.out BK659.out (by decide)) (fun _ hk => hk.2) (.slice Ao41 t653.length co41)) (fun _ hk => hk.2) (.int .i64 t656)) (fun _ hk => hk.2) (.int .i64 t657)) (fun _ hk => hk.2) (.string t658)) (fun _ h_ => h_.1))) hb); replace BK643 := aM (blk_below (g := gb643) (o := .cells #[.int .i64 a0_0, .slice (some ad652) l0_1.length c0_1] 26 (0, 0)) (by refine blk_far ?_ NB643_659.out _; refine blk_far ?_ NB643_659.out _; refine blk_far ?_ NB643_659.out _; refine blk_far ?_ NB643_659.out _; exact aB BK643) hb); replace BK644 := aM (blk_below (g := gb644) (o := .cells #[.int .i64 0, .slice none 0 0] 26 (0, 0)) (by refine blk_far ?_ NB644_659.out _; refine blk_far ?_ NB644_659.out _; refine blk_far ?_ NB644_659.out _; refine blk_far ?_ NB644_659.out _; exact aB BK644) hb); replace BK648 := aM (blk_below (g := gb648) (o := .cells #[.int .i64 a0_0, u649001] 26 (0, 0)) (by refine blk_far ?_ NB648_659.out _; refine blk_far ?_ NB648_659.out _; refine blk_far ?_ NB648_659.out _; refine blk_far ?_ NB648_659.out _; exact aB BK648) hb); replace BK659 := aM (blk_below (g := gb659) (o := .cells #[.slice Ao41 t653.length co41, .int .i64 t656, .int .i64 t657, .string t658] 29 (0, 0)) (by refine blk_put (cs := #[.slice Ao41 t653.length co41, .int .i64 t656, .int .i64 t657, .string (⟨#[]⟩ : ByteArray)]) ?_ 3 _ rfl; refine blk_put (cs := #[.slice Ao41 t653.length co41, .int .i64 t656, .int .i64 0, .string (⟨#[]⟩ : ByteArray)]) ?_ 2 _ rfl; refine blk_put (cs := #[.slice Ao41 t653.length co41, .int .i64 0, .int .i64 0, .string (⟨#[]⟩ : ByteArray)]) ?_ 1 _ rfl; refine blk_put (cs := #[.slice none 0 0, .int .i64 0, .int .i64 0, .string (⟨#[]⟩ : ByteArray)]) ?_ 0 _ rfl; exact aB BK659) hb); replace HB := aM (below_step (bw HB) hb); (try clear hb); (try clear hb2); (try clear hk); (try clear hi); have hnb47 := NB648_644.out; have hnc47 := NB644_648.out; obtain ⟨hcz48_0, hcz48_1⟩ := zc2 BK648; have hfz48_0 := zf BK648; obtain ⟨hcz49_0, hcz49_1, hcz49_2, hcz49_3⟩ := zc4 BK659; have hfz49_0 := zf BK659) | ((with_reducible refine gate_builtin (b := .append) (xs := #[.tmp 36, .tmp 38]) rfl ?_); at_builtin; refine Kd.S_append k29 (w0 := w) w.heap.size rfl (.tmp 36) (.tmp 38) 24 29 (.agg #[(.slice none 0 0), (.int .i64 0), (.int .i64 0), (.string ⟨#[]⟩)]) 56 rfl Try.underlying24 info29 rfl (by decide) (by omega) u649001 x649001_1 (⟨t653, t656, t657, t658⟩ : S29) [.slice Ao41 t653.length co41, .int .i64 t656, .int .i64 t657, .string t658] (fun k_ => some k_ ≠ (u7 : Value).ownBlock ∧ k_ ≠ gb659) (fun k_ => some k_ = (.slice Ao41 t653.length co41 : Value).ownBlock) rfl rfl ?aP (fun k_ hk_ => ((Kd.R_mono (ok' := fun k_ => ((fun k_ => some k_ ≠ (u7 : Value).ownBlock ∧ k_ ≠ gb659)) k_ ∧ some k_ ≠ (u649001 : Value).ownBlock) (Kd.R_types (Kd.R_apart' (Kd.R_apart' (HO655.out) (Kd.S_typed HO_7.out) (by decide)) (Kd.S_typed HO_649001.out) (by decide)) BK659.out (by decide)) (fun k_ hk => ⟨⟨hk.1.1.2, hk.2⟩, hk.1.2⟩))).1 k_ hk_.symm) ?aF ?aO ?aB ?aS ?aL ?_; (case aP => exact k29_mkM _ _ _ (⟨t653, t656, t657, t658⟩ : S29) (Kd.R_mono (Kd.R_tight rfl (Kd.R_mono (ok' := fun k_ => ((fun k_ => some k_ ≠ (u7 : Value).ownBlock ∧ k_ ≠ gb659)) k_ ∧ some k_ ≠ (u649001 : Value).ownBlock) (Kd.R_types (Kd.R_apart' (Kd.R_apart' (HO655.out) (Kd.S_typed HO_7.out) (by decide)) (Kd.S_typed HO_649001.out) (by decide)) BK659.out (by decide)) (fun k_ hk => ⟨⟨hk.1.1.2, hk.2⟩, hk.1.2⟩))) (fun _ h_ => h_))); (case aB => exact (bw HB)); (case aF => exact (fun k_ hk => ⟨Kd.fresh' (Kd.S_lt (sS HO_7.out)) k_ hk, Kd.freshB (g := gb659) (aB BK659) k_ hk⟩)); (case aO => exact (by (with_reducible repeat (first | apply Kd.S_alloc | apply Kd.S_drewN | apply Kd.S_drew)); exact Kd.S_mono HO_649001.out (fun k_ hk => ⟨⟨hk.1.1, hk.2⟩, fun e_ => hk.1.2 e_⟩))); (case aS => exact (below_size (bw HB))); (case aL => have := LMc35.out; omega); intro v665 w50 ho hb hg hat; rw [← Ny664.out] at ho; replace HO_7 := aM (Kd.S_after (ok := (fun k_ => some k_ ≠ (.slice Ao41 t653.length co41 : Value).ownBlock ∧ k_ ≠ gb659)) (by (with_reducible repeat (first | apply Kd.S_alloc | apply Kd.S_drewN | apply Kd.S_drew)); exact Kd.S_mono HO_7.out (fun _ hk => ⟨⟨hk.1.2, hk.2⟩, hk.1.1⟩)) hg hat); replace BK643 := aM (blk_grown (g := gb643) (aB BK643) hg (Kd.S_ne HO_649001.out BK643.out (by decide))); replace BK644 := aM (blk_grown (g := gb644) (aB BK644) hg (Kd.S_ne HO_649001.out BK644.out (by decide))); replace BK648 := aM (blk_grown (g := gb648) (aB BK648) hg (Kd.S_ne HO_649001.out BK648.out (by decide))); replace BK659 := aM (blk_grown (g := gb659) (aB BK659) hg (Kd.S_away HO_649001.out (fun _ hk => hk.2))); replace HB := aM (hb); have HO666 := aM (ho); clear HO_649001 HO655 ho hb hg hat; obtain ⟨Ao51, co51, eo51⟩ := Kd.S_slice HO666.out; subst eo51; obtain ⟨hcz52_0, hcz52_1⟩ := zc2 BK648; have hfz52_0 := zf BK648))
              go_roundg k1
              case measure => have := HK1.out; omega
              case rel => exact ⟨(x7_1), (wrap64 (x8_1 + 1)), (y664), (.slice Ao51 y664.length co51), rs_, H', ⟨by have := HK1.out; omega⟩, ⟨by (with_reducible repeat (first | apply Kd.S_alloc | apply Kd.S_drewN | apply Kd.S_drew)); exact Kd.S_mono (Kd.S_far (p := ⟨gb648, 1, none⟩) (Kd.S_types HO_7.out BK648.out (by decide)) (fun _ hk => hk.2) (.slice Ao51 y664.length co51)) (fun _ hk => hk.1.2)⟩, ⟨by (with_reducible repeat (first | apply Kd.S_alloc | apply Kd.S_drewN | apply Kd.S_drew)); exact Kd.S_mono (Kd.S_far (p := ⟨gb648, 1, none⟩) (Kd.S_types HO666.out BK648.out (by decide)) (fun _ hk => hk.2) (.slice Ao51 y664.length co51)) (fun _ hk => hk.1.1)⟩, ⟨by refine blk_far ?_ NB643_648.out _; exact aB BK643⟩, ⟨by refine blk_far ?_ NB644_648.out _; exact aB BK644⟩, ⟨by refine blk_put (cs := #[.int .i64 a0_0, u649001]) ?_ 1 _ rfl; exact aB BK648⟩, ⟨(bw HB)⟩⟩
            · rw [if_neg c35] at H
              exact absurd H (by simp)
        · rw [if_neg c17] at H
          exact absurd H (by simp)
      · rw [if_neg c16] at H
        have c16b0 : decide (x8_1 < (l0_1.length : Int)) = false := decide_eq_false c16; clear c16
        simp only [Option.some.injEq, Prod.mk.injEq] at H
        obtain ⟨rfl, rfl, rfl⟩ := H
        have hnb53 := NB643_644.out; have hnc53 := NB644_643.out; have hnb54 := NB643_648.out; have hnc54 := NB648_643.out; obtain ⟨hcz55_0, hcz55_1⟩ := zc2 BK643; have hfz55_0 := zf BK643; have hnb56 := NB648_644.out; have hnc56 := NB644_648.out; obtain ⟨hcz57_0, hcz57_1⟩ := zc2 BK648; have hfz57_0 := zf BK648; obtain ⟨hcz58_0, hcz58_1⟩ := zc2 BK644; have hfz58_0 := zf BK644
        obtain ⟨Ao59, co59, eo59⟩ := Kd.S_slice HO_649001.out
        subst eo59
        go_wp2
        refine bodyPost_ret (results_ct rfl _ _ gb644 26 #[.int .i64 a0_0, .slice Ao59 x649001_1.length co59] (0, 0) _ rfl (by refine blk_put (cs := #[.int .i64 a0_0, .slice none 0 0]) ?_ 1 _ rfl; refine blk_put (cs := #[.int .i64 0, .slice none 0 0]) ?_ 0 _ rfl; exact aB BK644) Try.underlying26 rfl (by kernel_rfl)) rfl ?_
        exact ⟨_, _, er, by (with_reducible repeat (first | apply Kd.S_alloc | apply Kd.S_drewN | apply Kd.S_drew)); exact Kd.S_mono (Kd.S_far (p := ⟨gb644, 1, none⟩) (Kd.S_far (p := ⟨gb644, 0, none⟩) (Kd.S_types HO_649001.out BK644.out (by decide)) (fun _ hk => hk.2) (.int .i64 a0_0)) (fun _ hk => hk.2) (.slice Ao59 x649001_1.length co59)) (fun _ hk => hk.1), by (with_reducible repeat (first | apply Kd.S_alloc | apply Kd.S_drewN | apply Kd.S_drew)); exact Kd.S_mono (Kd.S_far (p := ⟨gb644, 1, none⟩) (Kd.S_far (p := ⟨gb644, 0, none⟩) (Kd.S_types HO_7.out BK644.out (by decide)) (fun _ hk => hk.2) (.int .i64 a0_0)) (fun _ hk => hk.2) (.slice Ao59 x649001_1.length co59)) (fun _ hk => hk.1), (bw HB)⟩

/-! ### impl_SameAlarm: function 21 -/
def impl_SameAlarm.f (k : Nat) (l0_0 : List (S76)) (a0_1 : Int) (a0_2 : Int) (a0_3 : ByteArray) (l1_0 : List (S76)) (a1_1 : Int) (a1_2 : Int) (a1_3 : ByteArray) : Option (Bool) := (impl_SameSet.f k l0_0 l1_0).bind fun t699 => (if t699 = true then (if a0_1 = a1_1 then (if a0_2 = a1_2 then (some (a0_3.toList == a1_3.toList)) else (some false)) else (some false)) else (some false))
theorem impl_SameAlarm.calls (k : Nat) (A0_0 : Option Addr) (c0_0 : Nat) (l0_0 : List (S76)) (a0_1 : Int) (a0_2 : Int) (a0_3 : ByteArray) (A1_0 : Option Addr) (c1_0 : Nat) (l1_0 : List (S76)) (a1_1 : Int) (a1_2 : Int) (a1_3 : ByteArray) (r : Bool) (w : World) (hr0_0 : Kd.C k76 w A0_0 l0_0.length l0_0) (hc0_0 : l0_0.length ≤ c0_0) (hr1_0 : Kd.C k76 w A1_0 l1_0.length l1_0) (hc1_0 : l1_0.length ≤ c1_0) (h : impl_SameAlarm.f k l0_0 a0_1 a0_2 a0_3 l1_0 a1_1 a1_2 a1_3 = some r) :
    Calls Try.prog 21 #[.agg #[.slice A0_0 l0_0.length c0_0, .int .i64 a0_1, .int .i64 a0_2, .string a0_3], .agg #[.slice A1_0 l1_0.length c1_0, .int .i64 a1_1, .int .i64 a1_2, .string a1_3]] w fun e w' => e = .returned (.bool r) ∧ Below w.heap.size w w' := by
  have hu29 := Try.underlying29
  have HR0_0 := aM hr0_0
  have HC0_0 := aM hc0_0
  clear hr0_0 hc0_0
  have HR1_0 := aM hr1_0
  have HC1_0 := aM hc1_0
  clear hr1_0 hc1_0
  have HB := aM (Below.refl w.heap.size w)
  have H : ((impl_SameSet.f k l0_0 l1_0).bind fun t699 => (if t699 = true then (if a0_1 = a1_1 then (if a0_2 = a1_2 then (some (a0_3.toList == a1_3.toList)) else (some false)) else (some false)) else (some false))) = some r := h
  clear h; replace H := bs_ H; obtain ⟨t699, A30, H⟩ := H; try dsimp only at H
  have A3 := aM A30
  clear A30
  by_cases c4 : t699 = true
  · subst c4
    have H1 : (if a0_1 = a1_1 then (if a0_2 = a1_2 then (some (a0_3.toList == a1_3.toList)) else (some false)) else (some false)) = some r := by rw [if_pos rfl] at H; exact H
    clear H
    have H := H1
    clear H1
    by_cases c5 : a0_1 = a1_1
    · rw [if_pos c5] at H
      have c5b0 : (a0_1 == a1_1) = true := beq_iff_eq.mpr c5
      have c5b1 : (a0_1 != a1_1) = false := bne_eq_false_iff_eq.mpr c5
      clear c5
      by_cases c6 : a0_2 = a1_2
      · rw [if_pos c6] at H
        have c6b0 : (a0_2 == a1_2) = true := beq_iff_eq.mpr c6
        have c6b1 : (a0_2 != a1_2) = false := bne_eq_false_iff_eq.mpr c6
        clear c6
        obtain rfl := Option.some.inj H
        go_enter Try.func21, Try.ntmps21
        go_wp2_with (first | (refine be_ 2 #[.slice A0_0 l0_0.length c0_0, .int .i64 a0_1, .int .i64 a0_2, .string a0_3] 29 ?_; intro gb697 hg w7 hbox hb; have BK697 := aM (hbox); have GW697 := gw hg (bw HB); have GE697 := gw hg (bw HB); replace HB := aM (below_step (bw HB) hb); clear hb hbox hg) | (refine be_ 3 #[.slice A1_0 l1_0.length c1_0, .int .i64 a1_1, .int .i64 a1_2, .string a1_3] 29 ?_; intro gb698 hg w8 hbox hb; have BK698 := aM (hbox); have GW698 := gw hg (bw HB); have GE698 := gw hg (bw HB); replace HB := aM (below_step (bw HB) hb); have NB697_698 := nb1 hg BK697; have NB698_697 := nb2 hg BK697; replace BK697 := bb BK697 hb; clear hb hbox hg; have hnb9 := NB697_698.out; have hnc9 := NB698_697.out; obtain ⟨hcz10_0, hcz10_1, hcz10_2, hcz10_3⟩ := zc4 BK697; have hfz10_0 := zf BK697; obtain ⟨hcz11_0, hcz11_1, hcz11_2, hcz11_3⟩ := zc4 BK698; have hfz11_0 := zf BK698) | (refine gl_ (some 9) Try.func46 #[.slice A0_0 l0_0.length c0_0, .slice A1_0 l1_0.length c1_0] ?_; (with_reducible refine (impl_SameSet.calls k _ _ l0_0 _ _ l1_0 true _ ?side1 ?side2 ?side3 ?side4 A3.out).mono ?_); (case side1 => exact cA (Kd.C_below HR0_0.out HB.out)); (case side2 => exact HC0_0.out); (case side3 => exact cA (Kd.C_below HR1_0.out HB.out)); (case side4 => exact HC1_0.out); rintro e w' ⟨rfl, ⟨nd, rfl⟩⟩; refine ⟨_, rfl, ?_⟩))
        go_ret
        exact ⟨er, (bw HB)⟩
      · rw [if_neg c6] at H
        have c6b0 : (a0_2 == a1_2) = false := beq_eq_false_iff_ne.mpr c6
        have c6b1 : (a0_2 != a1_2) = true := bne_iff_ne.mpr c6
        obtain rfl := Option.some.inj H
        go_enter Try.func21, Try.ntmps21
        go_wp2_with (first | (refine be_ 2 #[.slice A0_0 l0_0.length c0_0, .int .i64 a0_1, .int .i64 a0_2, .string a0_3] 29 ?_; intro gb697 hg w12 hbox hb; have BK697 := aM (hbox); have GW697 := gw hg (bw HB); have GE697 := gw hg (bw HB); replace HB := aM (below_step (bw HB) hb); clear hb hbox hg) | (refine be_ 3 #[.slice A1_0 l1_0.length c1_0, .int .i64 a1_1, .int .i64 a1_2, .string a1_3] 29 ?_; intro gb698 hg w13 hbox hb; have BK698 := aM (hbox); have GW698 := gw hg (bw HB); have GE698 := gw hg (bw HB); replace HB := aM (below_step (bw HB) hb); have NB697_698 := nb1 hg BK697; have NB698_697 := nb2 hg BK697; replace BK697 := bb BK697 hb; clear hb hbox hg; have hnb14 := NB697_698.out; have hnc14 := NB698_697.out; obtain ⟨hcz15_0, hcz15_1, hcz15_2, hcz15_3⟩ := zc4 BK697; have hfz15_0 := zf BK697; obtain ⟨hcz16_0, hcz16_1, hcz16_2, hcz16_3⟩ := zc4 BK698; have hfz16_0 := zf BK698) | (refine gl_ (some 9) Try.func46 #[.slice A0_0 l0_0.length c0_0, .slice A1_0 l1_0.length c1_0] ?_; (with_reducible refine (impl_SameSet.calls k _ _ l0_0 _ _ l1_0 true _ ?side1 ?side2 ?side3 ?side4 A3.out).mono ?_); (case side1 => exact cA (Kd.C_below HR0_0.out HB.out)); (case side2 => exact HC0_0.out); (case side3 => exact cA (Kd.C_below HR1_0.out HB.out)); (case side4 => exact HC1_0.out); rintro e w' ⟨rfl, ⟨nd, rfl⟩⟩; refine ⟨_, rfl, ?_⟩))
        go_ret
        exact ⟨er, (bw HB)⟩
    · rw [if_neg c5] at H
      have c5b0 : (a0_1 == a1_1) = false := beq_eq_false_iff_ne.mpr c5
      have c5b1 : (a0_1 != a1_1) = true := bne_iff_ne.mpr c5
      obtain rfl := Option.some.inj H
      go_enter Try.func21, Try.ntmps21
      go_wp2_with (first | (refine be_ 2 #[.slice A0_0 l0_0.length c0_0, .int .i64 a0_1, .int .i64 a0_2, .string a0_3] 29 ?_; intro gb697 hg w17 hbox hb; have BK697 := aM (hbox); have GW697 := gw hg (bw HB); have GE697 := gw hg (bw HB); replace HB := aM (below_step (bw HB) hb); clear hb hbox hg) | (refine be_ 3 #[.slice A1_0 l1_0.length c1_0, .int .i64 a1_1, .int .i64 a1_2, .string a1_3] 29 ?_; intro gb698 hg w18 hbox hb; have BK698 := aM (hbox); have GW698 := gw hg (bw HB); have GE698 := gw hg (bw HB); replace HB := aM (below_step (bw HB) hb); have NB697_698 := nb1 hg BK697; have NB698_697 := nb2 hg BK697; replace BK697 := bb BK697 hb; clear hb hbox hg; have hnb19 := NB697_698.out; have hnc19 := NB698_697.out; obtain ⟨hcz20_0, hcz20_1, hcz20_2, hcz20_3⟩ := zc4 BK697; have hfz20_0 := zf BK697; obtain ⟨hcz21_0, hcz21_1, hcz21_2, hcz21_3⟩ := zc4 BK698; have hfz21_0 := zf BK698) | (refine gl_ (some 9) Try.func46 #[.slice A0_0 l0_0.length c0_0, .slice A1_0 l1_0.length c1_0] ?_; (with_reducible refine (impl_SameSet.calls k _ _ l0_0 _ _ l1_0 true _ ?side1 ?side2 ?side3 ?side4 A3.out).mono ?_); (case side1 => exact cA (Kd.C_below HR0_0.out HB.out)); (case side2 => exact HC0_0.out); (case side3 => exact cA (Kd.C_below HR1_0.out HB.out)); (case side4 => exact HC1_0.out); rintro e w' ⟨rfl, ⟨nd, rfl⟩⟩; refine ⟨_, rfl, ?_⟩))
      go_ret
      exact ⟨er, (bw HB)⟩
  · replace c4 := Bool.eq_false_iff.mpr c4
    subst c4
    have H1 : (some false) = some r := by rw [if_neg (show ¬ (false = true) by decide)] at H; exact H
    clear H
    have H := H1
    clear H1
    obtain rfl := Option.some.inj H
    go_enter Try.func21, Try.ntmps21
    go_wp2_with (first | (refine be_ 2 #[.slice A0_0 l0_0.length c0_0, .int .i64 a0_1, .int .i64 a0_2, .string a0_3] 29 ?_; intro gb697 hg w22 hbox hb; have BK697 := aM (hbox); have GW697 := gw hg (bw HB); have GE697 := gw hg (bw HB); replace HB := aM (below_step (bw HB) hb); clear hb hbox hg) | (refine be_ 3 #[.slice A1_0 l1_0.length c1_0, .int .i64 a1_1, .int .i64 a1_2, .string a1_3] 29 ?_; intro gb698 hg w23 hbox hb; have BK698 := aM (hbox); have GW698 := gw hg (bw HB); have GE698 := gw hg (bw HB); replace HB := aM (below_step (bw HB) hb); have NB697_698 := nb1 hg BK697; have NB698_697 := nb2 hg BK697; replace BK697 := bb BK697 hb; clear hb hbox hg; have hnb24 := NB697_698.out; have hnc24 := NB698_697.out; obtain ⟨hcz25_0, hcz25_1, hcz25_2, hcz25_3⟩ := zc4 BK697; have hfz25_0 := zf BK697; obtain ⟨hcz26_0, hcz26_1, hcz26_2, hcz26_3⟩ := zc4 BK698; have hfz26_0 := zf BK698) | (refine gl_ (some 9) Try.func46 #[.slice A0_0 l0_0.length c0_0, .slice A1_0 l1_0.length c1_0] ?_; (with_reducible refine (impl_SameSet.calls k _ _ l0_0 _ _ l1_0 false _ ?side1 ?side2 ?side3 ?side4 A3.out).mono ?_); (case side1 => exact cA (Kd.C_below HR0_0.out HB.out)); (case side2 => exact HC0_0.out); (case side3 => exact cA (Kd.C_below HR1_0.out HB.out)); (case side4 => exact HC1_0.out); rintro e w' ⟨rfl, ⟨nd, rfl⟩⟩; refine ⟨_, rfl, ?_⟩))
    go_ret
    exact ⟨er, (bw HB)⟩

end Go.Proofs.Ytdhignbneeapiaa.PFnChains
