/- What the Go functions that FnChains reaches compute, as Lean functions, and that the machine's calls do so; no conditions. -/
import Derived.Test.YtdhignbneeapiaaPFnChainsx0
import Derived.Test.YtdhignbneeapiaaPFnChainsx2
namespace Go.Proofs.Ytdhignbneeapiaa.PFnChains
open Go.Proofs.Ytdhignbneeapiaa
open Go.RowKit Go.Proofs.YtdhignbneeapiaaW.PrintWords Go.Proofs.YtdhignbneeapiaaW.PrintLast Go.Proofs.YtdhignbneeapiaaW.PrintMore
attribute [local go_sem] max2_int min2_int max_two min_two max_three min_three max_four min_four   -- for this text's walks alone
set_option linter.unusedVariables false
set_option linter.unusedSimpArgs false
set_option maxHeartbeats 8000000
set_option maxRecDepth 100000

/-! ### spec_l6Copy: function 30 -/
def spec_l6Copy.f (k : Nat) (a0_0 : Int) (l0_1 : List (S29)) : Option (Int × (List (S29))) := (spec_l4All.f k l0_1).bind fun t146 => (some (a0_0, t146))
theorem spec_l6Copy.calls (k : Nat) (a0_0 : Int) (A0_1 : Option Addr) (c0_1 : Nat) (l0_1 : List (S29)) (r1 : Int) (r2 : List (S29)) (w : World) (hr0_1 : Kd.C k29 w A0_1 l0_1.length l0_1) (hc0_1 : l0_1.length ≤ c0_1) (h : spec_l6Copy.f k a0_0 l0_1 = some (r1, r2)) :
  Calls Try.prog 30 #[.agg #[.int .i64 a0_0, .slice A0_1 l0_1.length c0_1]] w fun e w' => ∃ v1_ : Value, e = .returned (.agg #[.int .i64 r1, v1_]) ∧ Kd.S k29 29 w' w.heap.size (fun _ => True) v1_ r2 ∧ Below w.heap.size w w' := by
 have hu26 := Try.underlying26
 have HR0_1 := aM hr0_1
 have HC0_1 := aM hc0_1
 clear hr0_1 hc0_1
 have HB := aM (Below.refl w.heap.size w)
 have H : ((spec_l4All.f k l0_1).bind fun t146 => (some (a0_0, t146))) = some (r1, r2) := h
 clear h; replace H := bs_ H; obtain ⟨t146, A20, H⟩ := H; try dsimp only at H
 have A2 := aM A20
 clear A20
 simp only [Option.some.injEq, Prod.mk.injEq] at H
 obtain ⟨rfl, rfl⟩ := H
 go_enter Try.func30, Try.ntmps30
 try go_wp2_with (first | (refine be_ 1 #[.int .i64 a0_0, .slice A0_1 l0_1.length c0_1] 26 ?_; intro gb144 hg w3 hbox hb; have BK144 := aM (hbox); have GW144 := gw hg (bw HB); have GE144 := gw hg (bw HB); replace HB := aM (below_step (bw HB) hb); clear hb hbox hg) | (refine be_ 2 #[.int .i64 0, .slice none 0 0] 26 ?_; intro gb145 hg w4 hbox hb; have BK145 := aM (hbox); have GW145 := gw hg (bw HB); have GE145 := gw hg (bw HB); replace HB := aM (below_step (bw HB) hb); have NB144_145 := nb1 hg BK144; have NB145_144 := nb2 hg BK144; replace BK144 := bb BK144 hb; clear hb hbox hg))
 replace BK144 := aM (blk_drew BK144.out)
 replace BK145 := aM (blk_drew BK145.out)
 replace HB := aM (below_drew1 HB.out)
 refine start_ (n := 7) (S := fun w' => w'.cell? ⟨gb144, 0, none⟩ = some (.int .i64 a0_0) ∧ w'.cell? ⟨gb144, 1, none⟩ = some (.slice A0_1 l0_1.length c0_1)) (ds := []) (bz 7 0) (by kernel_rfl) rfl (by kernel_rfl) ⟨(blk_cell BK144.out 0).trans rfl, (blk_cell BK144.out 1).trans rfl⟩ (fun hHeld => ?_)
 generalize w4.drew = w5 at BK144 BK145 HB hHeld ⊢
 refine pA_ 0 (some 3) (bz 7 1) ?_ ?_ ?_ ?_ ?_
 rotate_left
 ·intro w'
  go_simp
  with_reducible rfl
 rotate_left
 ·simp only [u6_]
  rfl
 refine pA_ 2 (some 5) (bz 7 5) ?_ ?_ ?_ ?_ ?_
 rotate_left
 ·intro w'
  go_simp
  with_reducible rfl
 rotate_left
 ·simp only [u6_]
  rfl
 refine tA_ 1 (some 4) (bz 7 7) ?_ ?_ hHeld ?_ ?_ ?_
 rotate_left
 ·rintro w' ⟨s0, s1⟩
  go_simp
  with_reducible rfl
 rotate_left
 ·simp only [u6_]
  rfl
 refine tA_ 3 (some 6) (bz 7 15) ?_ ?_ hHeld ?_ ?_ ?_
 rotate_left
 ·rintro w' ⟨s0, s1⟩
  go_simp
  with_reducible rfl
 rotate_left
 ·simp only [u6_]
  rfl
 refine one_ (i := 4) (N := some 7) (bz 7 31) rfl rfl (by kernel_rfl) (by decide) (fun K hK => ?_)
 refine goes_ Try.func54 (by kernel_rfl) rfl #[.slice A0_1 l0_1.length c0_1] (by rfl) rfl rfl mp ?_
 with_reducible refine (spec_l4All.calls k _ _ l0_1 t146 _ ?side1 ?side2 A2.out).mono ?_
 (case side1 => exact cA (Kd.C_below HR0_1.out HB.out))
 (case side2 => exact HC0_1.out)
 rintro e w6 ⟨v147, rfl, ho0, hb⟩
 refine ⟨_, rfl, ?_⟩
 have HO148 := aM (Kd.S_lower ho0 (below_size (bw HB)))
 replace BK144 := bb BK144 hb
 replace BK145 := bb BK145 hb
 replace HB := aM (below_step (bw HB) hb)
 (try clear hb)
 (try clear hb2)
 (try clear hk)
 (try clear hi)
 (try clear ho0)
 obtain ⟨Ao7, co7, eo7⟩ := Kd.S_slice HO148.out
 (first | subst eo7 | (injection eo7 with f1_ f2_ f3_; have f4_ := f1_.symm; have f5_ := f3_.symm; clear f1_ f2_ f3_; subst f4_; subst f5_))
 refine hK.out _ _ ⟨(blk_cell BK144.out 0).trans rfl, (blk_cell BK144.out 1).trans rfl⟩ (fun hHeld => ?_)
 clear hK K
 refine norm_ (a' := ?_) ?_ ?_
 rotate_left
 ·show Act.put _ (some 7) _ = _
  simp only [u6_]
  rfl
 refine pA_ 5 (some 8) (bz 7 63) ?_ ?_ ?_ ?_ ?_
 rotate_left
 ·intro w'
  go_simp
  with_reducible rfl
 rotate_left
 ·simp only [u6_]
  rfl
 refine one_ (i := 6) (N := none) (bz 7 127) rfl rfl (by kernel_rfl) (by decide) (fun K hK => ?_)
 have hs8 : w6.cell? ⟨gb145, 0, none⟩ = some (.int .i64 0) := (blk_cell BK145.out 0).trans rfl
 have hfs8 := blk_frozen BK145.out 0
 have hns8_0 := NB144_145.out
 have hms8_0 := NB145_144.out
 have hs9 : w6.cell? ⟨gb145, 1, none⟩ = some (.slice none 0 0) := (blk_cell BK145.out 1).trans rfl
 have hfs9 := blk_frozen BK145.out 1
 have hns9_0 := NB144_145.out
 have hms9_0 := NB145_144.out
 refine skip_ (w1 := ?_) (by rfl) rfl ?_ ?_
 rotate_left
 ·go_simp
  rfl
 refine hK.out _ _ ⟨((cell_far (p := ⟨gb145, _, none⟩) NB144_145.out _).trans (((cell_far (p := ⟨gb145, _, none⟩) NB144_145.out _).trans (hHeld.1)))), ((cell_far (p := ⟨gb145, _, none⟩) NB144_145.out _).trans (((cell_far (p := ⟨gb145, _, none⟩) NB144_145.out _).trans (hHeld.2))))⟩ (fun hHeld => ?_)
 clear hK K
 refine done_ (by kernel_rfl) ?_
 try go_wp2
 refine bodyPost_ret (results_cell_row rfl _ _ gb145 26 #[.int .i64 a0_0, .slice Ao7 t146.length co7] (0, 0) _ rfl (by refine blk_put (cs := #[.int .i64 a0_0, .slice none 0 0]) ?_ 1 _ rfl; refine blk_put (cs := #[.int .i64 0, .slice none 0 0]) ?_ 0 _ rfl; exact aB BK145) Try.underlying26 rfl (by kernel_rfl)) rfl ?_
 exact ⟨_, er, by (with_reducible repeat (first | apply Kd.S_alloc | apply Kd.S_drewN | apply Kd.S_drew)); exact Kd.S_mono (Kd.S_far (p := ⟨gb145, 1, none⟩) (Kd.S_far (p := ⟨gb145, 0, none⟩) (Kd.S_types HO148.out BK145.out (by decide)) (fun _ hk => hk.2) (.int .i64 a0_0)) (fun _ hk => hk.2) (.slice Ao7 t146.length co7)) (fun _ hk => trivial), (bw HB)⟩

/-! ### spec_Touch: function 55 -/
def spec_Touch.f (l0_0 : List (S76)) (a0_1 : Int) (a0_2 : Int) (a0_3 : ByteArray) (l1_0 : List (S76)) (a1_1 : Int) (a1_2 : Int) (a1_3 : ByteArray) : Option (Bool) := if a0_1 ≤ a1_2 then (some (decide (a1_1 ≤ a0_2))) else (some false)
theorem spec_Touch.calls (A0_0 : Option Addr) (c0_0 : Nat) (l0_0 : List (S76)) (a0_1 : Int) (a0_2 : Int) (a0_3 : ByteArray) (A1_0 : Option Addr) (c1_0 : Nat) (l1_0 : List (S76)) (a1_1 : Int) (a1_2 : Int) (a1_3 : ByteArray) (r : Bool) (w : World) (hr0_0 : Kd.C k76 w A0_0 l0_0.length l0_0) (hc0_0 : l0_0.length ≤ c0_0) (hr1_0 : Kd.C k76 w A1_0 l1_0.length l1_0) (hc1_0 : l1_0.length ≤ c1_0) (h : spec_Touch.f l0_0 a0_1 a0_2 a0_3 l1_0 a1_1 a1_2 a1_3 = some r) :
  Calls Try.prog 55 #[.agg #[.slice A0_0 l0_0.length c0_0, .int .i64 a0_1, .int .i64 a0_2, .string a0_3], .agg #[.slice A1_0 l1_0.length c1_0, .int .i64 a1_1, .int .i64 a1_2, .string a1_3]] w fun e w' => e = .returned (.bool r) ∧ Below w.heap.size w w' := by
 have hu29 := Try.underlying29
 have HR0_0 := aM hr0_0
 have HC0_0 := aM hc0_0
 clear hr0_0 hc0_0
 have HR1_0 := aM hr1_0
 have HC1_0 := aM hc1_0
 clear hr1_0 hc1_0
 have HB := aM (Below.refl w.heap.size w)
 have H : (if a0_1 ≤ a1_2 then (some (decide (a1_1 ≤ a0_2))) else (some false)) = some r := h
 clear h
 by_cases c3 : a0_1 ≤ a1_2
 ·rw [if_pos c3] at H; have c3b0 : decide (a0_1 ≤ a1_2) = true := decide_eq_true c3; clear c3
  obtain rfl := Option.some.inj H
  go_enter Try.func55, Try.ntmps55
  go_wp2_with (first | (refine be_ 2 #[.slice A0_0 l0_0.length c0_0, .int .i64 a0_1, .int .i64 a0_2, .string a0_3] 29 ?_; intro gb149 hg w4 hbox hb; have BK149 := aM (hbox); have GW149 := gw hg (bw HB); have GE149 := gw hg (bw HB); replace HB := aM (below_step (bw HB) hb); clear hb hbox hg) | (refine be_ 3 #[.slice A1_0 l1_0.length c1_0, .int .i64 a1_1, .int .i64 a1_2, .string a1_3] 29 ?_; intro gb150 hg w5 hbox hb; have BK150 := aM (hbox); have GW150 := gw hg (bw HB); have GE150 := gw hg (bw HB); replace HB := aM (below_step (bw HB) hb); have NB149_150 := nb1 hg BK149; have NB150_149 := nb2 hg BK149; replace BK149 := bb BK149 hb; clear hb hbox hg; have hnb6 := NB149_150.out; have hnc6 := NB150_149.out; obtain ⟨hcz7_0, hcz7_1, hcz7_2, hcz7_3⟩ := zc4 BK149; have hfz7_0 := zf BK149; obtain ⟨hcz8_0, hcz8_1, hcz8_2, hcz8_3⟩ := zc4 BK150; have hfz8_0 := zf BK150))
  go_ret
  exact ⟨er, (bw HB)⟩
 ·rw [if_neg c3] at H; have c3b0 : decide (a0_1 ≤ a1_2) = false := decide_eq_false c3; clear c3
  obtain rfl := Option.some.inj H
  go_enter Try.func55, Try.ntmps55
  go_wp2_with (first | (refine be_ 2 #[.slice A0_0 l0_0.length c0_0, .int .i64 a0_1, .int .i64 a0_2, .string a0_3] 29 ?_; intro gb149 hg w9 hbox hb; have BK149 := aM (hbox); have GW149 := gw hg (bw HB); have GE149 := gw hg (bw HB); replace HB := aM (below_step (bw HB) hb); clear hb hbox hg) | (refine be_ 3 #[.slice A1_0 l1_0.length c1_0, .int .i64 a1_1, .int .i64 a1_2, .string a1_3] 29 ?_; intro gb150 hg w10 hbox hb; have BK150 := aM (hbox); have GW150 := gw hg (bw HB); have GE150 := gw hg (bw HB); replace HB := aM (below_step (bw HB) hb); have NB149_150 := nb1 hg BK149; have NB150_149 := nb2 hg BK149; replace BK149 := bb BK149 hb; clear hb hbox hg; have hnb11 := NB149_150.out; have hnc11 := NB150_149.out; obtain ⟨hcz12_0, hcz12_1, hcz12_2, hcz12_3⟩ := zc4 BK149; have hfz12_0 := zf BK149; obtain ⟨hcz13_0, hcz13_1, hcz13_2, hcz13_3⟩ := zc4 BK150; have hfz13_0 := zf BK150))
  go_ret
  exact ⟨er, (bw HB)⟩

/-! ### spec_Least: function 56 -/
def spec_Least.f (a0 : Int) (a1 : Int) : Option (Int) := if a1 < a0 then (some a1) else (some a0)
theorem spec_Least.calls (a0 : Int) (a1 : Int) (r : Int) (w : World) (h : spec_Least.f a0 a1 = some r) :
  Calls Try.prog 56 #[.int .i64 a0, .int .i64 a1] w fun e w' => e = .returned (.int .i64 r) ∧ Drawn0 w w' := by
 have H : (if a1 < a0 then (some a1) else (some a0)) = some r := h
 clear h
 by_cases c3 : a1 < a0
 ·rw [if_pos c3] at H; have c3b0 : decide (a1 < a0) = true := decide_eq_true c3; clear c3
  obtain rfl := Option.some.inj H
  go_enter Try.func56, Try.ntmps56
  go_wp2
  go_ret
  exact ⟨rs_, by repeat (first | exact Drawn0.refl _ | apply Drawn0.step)⟩
 ·rw [if_neg c3] at H; have c3b0 : decide (a1 < a0) = false := decide_eq_false c3; clear c3
  obtain rfl := Option.some.inj H
  go_enter Try.func56, Try.ntmps56
  go_wp2
  go_ret
  exact ⟨rs_, by repeat (first | exact Drawn0.refl _ | apply Drawn0.step)⟩

/-! ### spec_Merge: function 32 -/
def spec_Merge.f (l0_0 : List (S76)) (a0_1 : Int) (a0_2 : Int) (a0_3 : ByteArray) (l1_0 : List (S76)) (a1_1 : Int) (a1_2 : Int) (a1_3 : ByteArray) : Option ((List (S76)) × Int × Int × ByteArray) := (spec_l4Copy.f l1_0 a1_1 a1_2 a1_3).bind fun bt154 => ((spec_Touch.f l0_0 a0_1 a0_2 a0_3 l1_0 a1_1 a1_2 a1_3).bind fun t161 => (if t161 = true then ((spec_Least.f a0_1 a1_1).bind fun t162 => (some (bt154.1, t162, bt154.2.2.1, bt154.2.2.2))) else (some (bt154.1, bt154.2.1, bt154.2.2.1, bt154.2.2.2))))
theorem spec_Merge.calls (A0_0 : Option Addr) (c0_0 : Nat) (l0_0 : List (S76)) (a0_1 : Int) (a0_2 : Int) (a0_3 : ByteArray) (A1_0 : Option Addr) (c1_0 : Nat) (l1_0 : List (S76)) (a1_1 : Int) (a1_2 : Int) (a1_3 : ByteArray) (r1 : List (S76)) (r2 : Int) (r3 : Int) (r4 : ByteArray) (w : World) (hr0_0 : Kd.C k76 w A0_0 l0_0.length l0_0) (hc0_0 : l0_0.length ≤ c0_0) (hr1_0 : Kd.C k76 w A1_0 l1_0.length l1_0) (hc1_0 : l1_0.length ≤ c1_0) (h : spec_Merge.f l0_0 a0_1 a0_2 a0_3 l1_0 a1_1 a1_2 a1_3 = some (r1, r2, r3, r4)) :
  Calls Try.prog 32 #[.agg #[.slice A0_0 l0_0.length c0_0, .int .i64 a0_1, .int .i64 a0_2, .string a0_3], .agg #[.slice A1_0 l1_0.length c1_0, .int .i64 a1_1, .int .i64 a1_2, .string a1_3]] w fun e w' => ∃ v0_ : Value, e = .returned (.agg #[v0_, .int .i64 r2, .int .i64 r3, .string r4]) ∧ Kd.R k76 76 w' w.heap.size (fun _ => True) v0_ r1 ∧ Below w.heap.size w w' := by
 have hu29 := Try.underlying29
 have HR0_0 := aM hr0_0
 have HC0_0 := aM hc0_0
 clear hr0_0 hc0_0
 have HR1_0 := aM hr1_0
 have HC1_0 := aM hc1_0
 clear hr1_0 hc1_0
 have HB := aM (Below.refl w.heap.size w)
 have H : ((spec_l4Copy.f l1_0 a1_1 a1_2 a1_3).bind fun bt154 => ((spec_Touch.f l0_0 a0_1 a0_2 a0_3 l1_0 a1_1 a1_2 a1_3).bind fun t161 => (if t161 = true then ((spec_Least.f a0_1 a1_1).bind fun t162 => (some (bt154.1, t162, bt154.2.2.1, bt154.2.2.2))) else (some (bt154.1, bt154.2.1, bt154.2.2.1, bt154.2.2.2))))) = some (r1, r2, r3, r4) := h
 clear h; replace H := bs_ H
 obtain ⟨⟨t154, t157, t158, t159⟩, A30, H⟩ := H
 try dsimp only at H
 have A3 := aM A30
 clear A30; replace H := bs_ H; obtain ⟨t161, A40, H⟩ := H; try dsimp only at H
 have A4 := aM A40
 clear A40
 by_cases c5 : t161 = true
 ·subst c5
  have H1 : ((spec_Least.f a0_1 a1_1).bind fun t162 => (some (t154, t162, t158, t159))) = some (r1, r2, r3, r4) := by rw [if_pos rfl] at H; exact H
  clear H
  have H := H1
  clear H1; replace H := bs_ H; obtain ⟨t162, A60, H⟩ := H; try dsimp only at H
  have A6 := aM A60
  clear A60
  simp only [Option.some.injEq, Prod.mk.injEq] at H
  obtain ⟨rfl, rfl, rfl, rfl⟩ := H
  go_enter Try.func32, Try.ntmps32
  go_wp2_with (first | (refine be_ 2 #[.slice A0_0 l0_0.length c0_0, .int .i64 a0_1, .int .i64 a0_2, .string a0_3] 29 ?_; intro gb151 hg w7 hbox hb; have BK151 := aM (hbox); have GW151 := gw hg (bw HB); have GE151 := gw hg (bw HB); replace HB := aM (below_step (bw HB) hb); clear hb hbox hg) | (refine be_ 3 #[.slice A1_0 l1_0.length c1_0, .int .i64 a1_1, .int .i64 a1_2, .string a1_3] 29 ?_; intro gb152 hg w8 hbox hb; have BK152 := aM (hbox); have GW152 := gw hg (bw HB); have GE152 := gw hg (bw HB); replace HB := aM (below_step (bw HB) hb); have NB151_152 := nb1 hg BK151; have NB152_151 := nb2 hg BK151; replace BK151 := bb BK151 hb; clear hb hbox hg) | (refine be_ 4 #[.slice none 0 0, .int .i64 0, .int .i64 0, .string (⟨#[]⟩ : ByteArray)] 29 ?_; intro gb153 hg w9 hbox hb; have BK153 := aM (hbox); have GW153 := gw hg (bw HB); have GE153 := gw hg (bw HB); replace HB := aM (below_step (bw HB) hb); have NB151_153 := nb1 hg BK151; have NB153_151 := nb2 hg BK151; replace BK151 := bb BK151 hb; have NB152_153 := nb1 hg BK152; have NB153_152 := nb2 hg BK152; replace BK152 := bb BK152 hb; clear hb hbox hg; have hnb10 := NB152_151.out; have hnc10 := NB151_152.out; have hnb11 := NB152_153.out; have hnc11 := NB153_152.out; obtain ⟨hcz12_0, hcz12_1, hcz12_2, hcz12_3⟩ := zc4 BK152; have hfz12_0 := zf BK152) | (refine gl_ (some 7) Try.func31 #[.agg #[.slice A1_0 l1_0.length c1_0, .int .i64 a1_1, .int .i64 a1_2, .string a1_3]] ?_; (with_reducible refine (spec_l4Copy.calls _ _ l1_0 a1_1 a1_2 a1_3 t154 t157 t158 t159 _ ?side1 ?side2 A3.out).mono ?_); (case side1 => exact cA (Kd.C_below HR1_0.out HB.out)); (case side2 => exact HC1_0.out); rintro e w13 ⟨v155, rfl, ho0, hb⟩; refine ⟨_, rfl, ?_⟩; have HO156 := aM (Kd.R_lower ho0 (below_size (bw HB))); replace BK151 := bb BK151 hb; replace BK152 := bb BK152 hb; replace BK153 := bb BK153 hb; replace HB := aM (below_step (bw HB) hb); (try clear hb); (try clear hb2); (try clear hk); (try clear hi); (try clear ho0)) | (refine be_ 5 #[.slice none 0 0, .int .i64 0, .int .i64 0, .string (⟨#[]⟩ : ByteArray)] 29 ?_; intro gb160 hg w14 hbox hb; replace HO156 := rb HO156 hb; have BK160 := aM (hbox); have GW160 := gw hg (bw HB); have GE160 := gw hg (bw HB); replace HB := aM (below_step (bw HB) hb); have NB151_160 := nb1 hg BK151; have NB160_151 := nb2 hg BK151; replace BK151 := bb BK151 hb; have NB152_160 := nb1 hg BK152; have NB160_152 := nb2 hg BK152; replace BK152 := bb BK152 hb; have NB153_160 := nb1 hg BK153; have NB160_153 := nb2 hg BK153; replace BK153 := bb BK153 hb; clear hb hbox hg; obtain ⟨Ao15, co15, eo15⟩ := Kd.R_slice HO156.out; subst eo15; have hnb16 := NB160_151.out; have hnc16 := NB151_160.out; have hnb17 := NB160_152.out; have hnc17 := NB152_160.out; have hnb18 := NB160_153.out; have hnc18 := NB153_160.out; obtain ⟨hcz19_0, hcz19_1, hcz19_2, hcz19_3⟩ := zc4 BK160; have hfz19_0 := zf BK160; have hnb20 := NB151_153.out; have hnc20 := NB153_151.out; obtain ⟨hcz21_0, hcz21_1, hcz21_2, hcz21_3⟩ := zc4 BK151; have hfz21_0 := zf BK151; obtain ⟨hcz22_0, hcz22_1, hcz22_2, hcz22_3⟩ := zc4 BK152; have hfz22_0 := zf BK152) | (refine gl_ (some 10) Try.func55 #[.agg #[.slice A0_0 l0_0.length c0_0, .int .i64 a0_1, .int .i64 a0_2, .string a0_3], .agg #[.slice A1_0 l1_0.length c1_0, .int .i64 a1_1, .int .i64 a1_2, .string a1_3]] ?_; (with_reducible refine (spec_Touch.calls _ _ l0_0 a0_1 a0_2 a0_3 _ _ l1_0 a1_1 a1_2 a1_3 true _ ?side1 ?side2 ?side3 ?side4 A4.out).mono ?_); (case side1 => exact Kd.C_below HR0_0.out (bw HB)); (case side2 => exact HC0_0.out); (case side3 => exact Kd.C_below HR1_0.out (bw HB)); (case side4 => exact HC1_0.out); rintro e w23 ⟨rfl, hb⟩; refine ⟨_, rfl, ?_⟩; replace HO156 := aM (Kd.R_below (by (with_reducible repeat (first | apply aR1 | apply aR2 | apply aR3)); exact (Kd.R_mono (Kd.R_far (p := ⟨gb160, 3, none⟩) (Kd.R_far (p := ⟨gb160, 2, none⟩) (Kd.R_far (p := ⟨gb160, 1, none⟩) (Kd.R_far (p := ⟨gb160, 0, none⟩) (Kd.R_types HO156.out BK160.out (by decide)) (fun _ hk => hk.2) (.slice Ao15 t154.length co15)) (fun _ hk => hk.2) (.int .i64 t157)) (fun _ hk => hk.2) (.int .i64 t158)) (fun _ hk => hk.2) (.string t159)) (fun _ h_ => h_.1))) hb); replace BK151 := aM (blk_below (g := gb151) (o := .cells #[.slice A0_0 l0_0.length c0_0, .int .i64 a0_1, .int .i64 a0_2, .string a0_3] 29 (0, 0)) (by refine blk_far ?_ NB151_160.out _; refine blk_far ?_ NB151_160.out _; refine blk_far ?_ NB151_160.out _; refine blk_far ?_ NB151_160.out _; exact aB BK151) hb); replace BK152 := aM (blk_below (g := gb152) (o := .cells #[.slice A1_0 l1_0.length c1_0, .int .i64 a1_1, .int .i64 a1_2, .string a1_3] 29 (0, 0)) (by refine blk_far ?_ NB152_160.out _; refine blk_far ?_ NB152_160.out _; refine blk_far ?_ NB152_160.out _; refine blk_far ?_ NB152_160.out _; exact aB BK152) hb); replace BK153 := aM (blk_below (g := gb153) (o := .cells #[.slice none 0 0, .int .i64 0, .int .i64 0, .string (⟨#[]⟩ : ByteArray)] 29 (0, 0)) (by refine blk_far ?_ NB153_160.out _; refine blk_far ?_ NB153_160.out _; refine blk_far ?_ NB153_160.out _; refine blk_far ?_ NB153_160.out _; exact aB BK153) hb); replace BK160 := aM (blk_below (g := gb160) (o := .cells #[.slice Ao15 t154.length co15, .int .i64 t157, .int .i64 t158, .string t159] 29 (0, 0)) (by refine blk_put (cs := #[.slice Ao15 t154.length co15, .int .i64 t157, .int .i64 t158, .string (⟨#[]⟩ : ByteArray)]) ?_ 3 _ rfl; refine blk_put (cs := #[.slice Ao15 t154.length co15, .int .i64 t157, .int .i64 0, .string (⟨#[]⟩ : ByteArray)]) ?_ 2 _ rfl; refine blk_put (cs := #[.slice Ao15 t154.length co15, .int .i64 0, .int .i64 0, .string (⟨#[]⟩ : ByteArray)]) ?_ 1 _ rfl; refine blk_put (cs := #[.slice none 0 0, .int .i64 0, .int .i64 0, .string (⟨#[]⟩ : ByteArray)]) ?_ 0 _ rfl; exact aB BK160) hb); replace HB := aM (below_step (bw HB) hb); (try clear hb); (try clear hb2); (try clear hk); (try clear hi); obtain ⟨hcz24_0, hcz24_1, hcz24_2, hcz24_3⟩ := zc4 BK151; have hfz24_0 := zf BK151; obtain ⟨hcz25_0, hcz25_1, hcz25_2, hcz25_3⟩ := zc4 BK152; have hfz25_0 := zf BK152) | (refine gl_ (some 15) Try.func56 #[.int .i64 a0_1, .int .i64 a1_1] ?_; (with_reducible refine (spec_Least.calls a0_1 a1_1 t162 _ A6.out).mono ?_); rintro e w' ⟨rfl, ⟨nd, rfl⟩⟩; refine ⟨_, rfl, ?_⟩; (try (rw [drewN_self w23]; generalize hq_ : World.drewN w23 _ = w23; have n0_ : Aside0 (Kd.R k76 76 w23 w.heap.size (fun _ => True) (.slice Ao15 t154.length co15) t154) := ⟨by rw [← hq_]; exact (aR HO156)⟩; have n1_ : Aside0 (w23.heap[gb151]? = some (.cells #[.slice A0_0 l0_0.length c0_0, .int .i64 a0_1, .int .i64 a0_2, .string a0_3] 29 (0, 0))) := ⟨by rw [← hq_]; exact (aB BK151)⟩; have n2_ : Aside0 (w23.heap[gb152]? = some (.cells #[.slice A1_0 l1_0.length c1_0, .int .i64 a1_1, .int .i64 a1_2, .string a1_3] 29 (0, 0))) := ⟨by rw [← hq_]; exact (aB BK152)⟩; have n3_ : Aside0 (w23.heap[gb153]? = some (.cells #[.slice none 0 0, .int .i64 0, .int .i64 0, .string (⟨#[]⟩ : ByteArray)] 29 (0, 0))) := ⟨by rw [← hq_]; exact (aB BK153)⟩; have n4_ : Aside0 (w23.heap[gb160]? = some (.cells #[.slice Ao15 t154.length co15, .int .i64 t157, .int .i64 t158, .string t159] 29 (0, 0))) := ⟨by rw [← hq_]; exact (aB BK160)⟩; have n5_ : Aside0 (Below w.heap.size w w23) := ⟨by rw [← hq_]; exact (bw HB)⟩; clear HO156 BK151 BK152 BK153 BK160 HB hq_; have HO156 := n0_; have BK151 := n1_; have BK152 := n2_; have BK153 := n3_; have BK160 := n4_; have HB := n5_; clear n0_ n1_ n2_ n3_ n4_ n5_)); obtain ⟨hcz26_0, hcz26_1, hcz26_2, hcz26_3⟩ := zc4 BK160; have hfz26_0 := zf BK160; obtain ⟨hcz27_0, hcz27_1, hcz27_2, hcz27_3⟩ := zc4 BK153; have hfz27_0 := zf BK153))
  refine bodyPost_ret (results_cell_row rfl _ _ gb153 29 #[.slice Ao15 t154.length co15, .int .i64 t162, .int .i64 t158, .string t159] (0, 0) _ rfl (by refine blk_put (cs := #[.slice Ao15 t154.length co15, .int .i64 t162, .int .i64 t158, .string (⟨#[]⟩ : ByteArray)]) ?_ 3 _ rfl; refine blk_put (cs := #[.slice Ao15 t154.length co15, .int .i64 t162, .int .i64 0, .string (⟨#[]⟩ : ByteArray)]) ?_ 2 _ rfl; refine blk_put (cs := #[.slice Ao15 t154.length co15, .int .i64 0, .int .i64 0, .string (⟨#[]⟩ : ByteArray)]) ?_ 1 _ rfl; refine blk_put (cs := #[.slice none 0 0, .int .i64 0, .int .i64 0, .string (⟨#[]⟩ : ByteArray)]) ?_ 0 _ rfl; refine blk_far ?_ NB153_160.out _; exact aB BK153) Try.underlying29 rfl (by kernel_rfl)) rfl ?_
  exact ⟨_, er, by (with_reducible repeat (first | apply aR1 | apply aR2 | apply aR3)); exact Kd.R_mono (Kd.R_far (p := ⟨gb153, 3, none⟩) (Kd.R_far (p := ⟨gb153, 2, none⟩) (Kd.R_far (p := ⟨gb153, 1, none⟩) (Kd.R_far (p := ⟨gb153, 0, none⟩) (Kd.R_far (p := ⟨gb160, 1, none⟩) (Kd.R_types (Kd.R_types HO156.out BK160.out (by decide)) BK153.out (by decide)) (fun _ hk => hk.1.2) (.int .i64 t162)) (fun _ hk => hk.2) (.slice Ao15 t154.length co15)) (fun _ hk => hk.2) (.int .i64 t162)) (fun _ hk => hk.2) (.int .i64 t158)) (fun _ hk => hk.2) (.string t159)) (fun _ hk => trivial), (bw HB)⟩
 ·replace c5 := Bool.eq_false_iff.mpr c5
  subst c5
  have H1 : (some (t154, t157, t158, t159)) = some (r1, r2, r3, r4) := by rw [if_neg (show ¬ (false = true) by decide)] at H; exact H
  clear H
  have H := H1
  clear H1
  simp only [Option.some.injEq, Prod.mk.injEq] at H
  obtain ⟨rfl, rfl, rfl, rfl⟩ := H
  go_enter Try.func32, Try.ntmps32
  go_wp2_with (first | (refine be_ 2 #[.slice A0_0 l0_0.length c0_0, .int .i64 a0_1, .int .i64 a0_2, .string a0_3] 29 ?_; intro gb151 hg w28 hbox hb; have BK151 := aM (hbox); have GW151 := gw hg (bw HB); have GE151 := gw hg (bw HB); replace HB := aM (below_step (bw HB) hb); clear hb hbox hg) | (refine be_ 3 #[.slice A1_0 l1_0.length c1_0, .int .i64 a1_1, .int .i64 a1_2, .string a1_3] 29 ?_; intro gb152 hg w29 hbox hb; have BK152 := aM (hbox); have GW152 := gw hg (bw HB); have GE152 := gw hg (bw HB); replace HB := aM (below_step (bw HB) hb); have NB151_152 := nb1 hg BK151; have NB152_151 := nb2 hg BK151; replace BK151 := bb BK151 hb; clear hb hbox hg) | (refine be_ 4 #[.slice none 0 0, .int .i64 0, .int .i64 0, .string (⟨#[]⟩ : ByteArray)] 29 ?_; intro gb153 hg w30 hbox hb; have BK153 := aM (hbox); have GW153 := gw hg (bw HB); have GE153 := gw hg (bw HB); replace HB := aM (below_step (bw HB) hb); have NB151_153 := nb1 hg BK151; have NB153_151 := nb2 hg BK151; replace BK151 := bb BK151 hb; have NB152_153 := nb1 hg BK152; have NB153_152 := nb2 hg BK152; replace BK152 := bb BK152 hb; clear hb hbox hg; have hnb31 := NB152_151.out; have hnc31 := NB151_152.out; have hnb32 := NB152_153.out; have hnc32 := NB153_152.out; obtain ⟨hcz33_0, hcz33_1, hcz33_2, hcz33_3⟩ := zc4 BK152; have hfz33_0 := zf BK152) | (refine gl_ (some 7) Try.func31 #[.agg #[.slice A1_0 l1_0.length c1_0, .int .i64 a1_1, .int .i64 a1_2, .string a1_3]] ?_; (with_reducible refine (spec_l4Copy.calls _ _ l1_0 a1_1 a1_2 a1_3 t154 t157 t158 t159 _ ?side1 ?side2 A3.out).mono ?_); (case side1 => exact cA (Kd.C_below HR1_0.out HB.out)); (case side2 => exact HC1_0.out); rintro e w34 ⟨v155, rfl, ho0, hb⟩; refine ⟨_, rfl, ?_⟩; have HO156 := aM (Kd.R_lower ho0 (below_size (bw HB))); replace BK151 := bb BK151 hb; replace BK152 := bb BK152 hb; replace BK153 := bb BK153 hb; replace HB := aM (below_step (bw HB) hb); (try clear hb); (try clear hb2); (try clear hk); (try clear hi); (try clear ho0)) | (refine be_ 5 #[.slice none 0 0, .int .i64 0, .int .i64 0, .string (⟨#[]⟩ : ByteArray)] 29 ?_; intro gb160 hg w35 hbox hb; replace HO156 := rb HO156 hb; have BK160 := aM (hbox); have GW160 := gw hg (bw HB); have GE160 := gw hg (bw HB); replace HB := aM (below_step (bw HB) hb); have NB151_160 := nb1 hg BK151; have NB160_151 := nb2 hg BK151; replace BK151 := bb BK151 hb; have NB152_160 := nb1 hg BK152; have NB160_152 := nb2 hg BK152; replace BK152 := bb BK152 hb; have NB153_160 := nb1 hg BK153; have NB160_153 := nb2 hg BK153; replace BK153 := bb BK153 hb; clear hb hbox hg; obtain ⟨Ao36, co36, eo36⟩ := Kd.R_slice HO156.out; subst eo36; have hnb37 := NB160_151.out; have hnc37 := NB151_160.out; have hnb38 := NB160_152.out; have hnc38 := NB152_160.out; have hnb39 := NB160_153.out; have hnc39 := NB153_160.out; obtain ⟨hcz40_0, hcz40_1, hcz40_2, hcz40_3⟩ := zc4 BK160; have hfz40_0 := zf BK160; have hnb41 := NB151_153.out; have hnc41 := NB153_151.out; obtain ⟨hcz42_0, hcz42_1, hcz42_2, hcz42_3⟩ := zc4 BK151; have hfz42_0 := zf BK151; obtain ⟨hcz43_0, hcz43_1, hcz43_2, hcz43_3⟩ := zc4 BK152; have hfz43_0 := zf BK152) | (refine gl_ (some 10) Try.func55 #[.agg #[.slice A0_0 l0_0.length c0_0, .int .i64 a0_1, .int .i64 a0_2, .string a0_3], .agg #[.slice A1_0 l1_0.length c1_0, .int .i64 a1_1, .int .i64 a1_2, .string a1_3]] ?_; (with_reducible refine (spec_Touch.calls _ _ l0_0 a0_1 a0_2 a0_3 _ _ l1_0 a1_1 a1_2 a1_3 false _ ?side1 ?side2 ?side3 ?side4 A4.out).mono ?_); (case side1 => exact Kd.C_below HR0_0.out (bw HB)); (case side2 => exact HC0_0.out); (case side3 => exact Kd.C_below HR1_0.out (bw HB)); (case side4 => exact HC1_0.out); rintro e w44 ⟨rfl, hb⟩; refine ⟨_, rfl, ?_⟩; replace HO156 := aM (Kd.R_below (by (with_reducible repeat (first | apply aR1 | apply aR2 | apply aR3)); exact (Kd.R_mono (Kd.R_far (p := ⟨gb160, 3, none⟩) (Kd.R_far (p := ⟨gb160, 2, none⟩) (Kd.R_far (p := ⟨gb160, 1, none⟩) (Kd.R_far (p := ⟨gb160, 0, none⟩) (Kd.R_types HO156.out BK160.out (by decide)) (fun _ hk => hk.2) (.slice Ao36 t154.length co36)) (fun _ hk => hk.2) (.int .i64 t157)) (fun _ hk => hk.2) (.int .i64 t158)) (fun _ hk => hk.2) (.string t159)) (fun _ h_ => h_.1))) hb); replace BK151 := aM (blk_below (g := gb151) (o := .cells #[.slice A0_0 l0_0.length c0_0, .int .i64 a0_1, .int .i64 a0_2, .string a0_3] 29 (0, 0)) (by refine blk_far ?_ NB151_160.out _; refine blk_far ?_ NB151_160.out _; refine blk_far ?_ NB151_160.out _; refine blk_far ?_ NB151_160.out _; exact aB BK151) hb); replace BK152 := aM (blk_below (g := gb152) (o := .cells #[.slice A1_0 l1_0.length c1_0, .int .i64 a1_1, .int .i64 a1_2, .string a1_3] 29 (0, 0)) (by refine blk_far ?_ NB152_160.out _; refine blk_far ?_ NB152_160.out _; refine blk_far ?_ NB152_160.out _; refine blk_far ?_ NB152_160.out _; exact aB BK152) hb); replace BK153 := aM (blk_below (g := gb153) (o := .cells #[.slice none 0 0, .int .i64 0, .int .i64 0, .string (⟨#[]⟩ : ByteArray)] 29 (0, 0)) (by refine blk_far ?_ NB153_160.out _; refine blk_far ?_ NB153_160.out _; refine blk_far ?_ NB153_160.out _; refine blk_far ?_ NB153_160.out _; exact aB BK153) hb); replace BK160 := aM (blk_below (g := gb160) (o := .cells #[.slice Ao36 t154.length co36, .int .i64 t157, .int .i64 t158, .string t159] 29 (0, 0)) (by refine blk_put (cs := #[.slice Ao36 t154.length co36, .int .i64 t157, .int .i64 t158, .string (⟨#[]⟩ : ByteArray)]) ?_ 3 _ rfl; refine blk_put (cs := #[.slice Ao36 t154.length co36, .int .i64 t157, .int .i64 0, .string (⟨#[]⟩ : ByteArray)]) ?_ 2 _ rfl; refine blk_put (cs := #[.slice Ao36 t154.length co36, .int .i64 0, .int .i64 0, .string (⟨#[]⟩ : ByteArray)]) ?_ 1 _ rfl; refine blk_put (cs := #[.slice none 0 0, .int .i64 0, .int .i64 0, .string (⟨#[]⟩ : ByteArray)]) ?_ 0 _ rfl; exact aB BK160) hb); replace HB := aM (below_step (bw HB) hb); (try clear hb); (try clear hb2); (try clear hk); (try clear hi); obtain ⟨hcz45_0, hcz45_1, hcz45_2, hcz45_3⟩ := zc4 BK160; have hfz45_0 := zf BK160; obtain ⟨hcz46_0, hcz46_1, hcz46_2, hcz46_3⟩ := zc4 BK153; have hfz46_0 := zf BK153))
  refine bodyPost_ret (results_cell_row rfl _ _ gb153 29 #[.slice Ao36 t154.length co36, .int .i64 t157, .int .i64 t158, .string t159] (0, 0) _ rfl (by refine blk_put (cs := #[.slice Ao36 t154.length co36, .int .i64 t157, .int .i64 t158, .string (⟨#[]⟩ : ByteArray)]) ?_ 3 _ rfl; refine blk_put (cs := #[.slice Ao36 t154.length co36, .int .i64 t157, .int .i64 0, .string (⟨#[]⟩ : ByteArray)]) ?_ 2 _ rfl; refine blk_put (cs := #[.slice Ao36 t154.length co36, .int .i64 0, .int .i64 0, .string (⟨#[]⟩ : ByteArray)]) ?_ 1 _ rfl; refine blk_put (cs := #[.slice none 0 0, .int .i64 0, .int .i64 0, .string (⟨#[]⟩ : ByteArray)]) ?_ 0 _ rfl; exact aB BK153) Try.underlying29 rfl (by kernel_rfl)) rfl ?_
  exact ⟨_, er, by (with_reducible repeat (first | apply aR1 | apply aR2 | apply aR3)); exact Kd.R_mono (Kd.R_far (p := ⟨gb153, 3, none⟩) (Kd.R_far (p := ⟨gb153, 2, none⟩) (Kd.R_far (p := ⟨gb153, 1, none⟩) (Kd.R_far (p := ⟨gb153, 0, none⟩) (Kd.R_types HO156.out BK153.out (by decide)) (fun _ hk => hk.2) (.slice Ao36 t154.length co36)) (fun _ hk => hk.2) (.int .i64 t157)) (fun _ hk => hk.2) (.int .i64 t158)) (fun _ hk => hk.2) (.string t159)) (fun _ hk => trivial), (bw HB)⟩

/-! ### spec_PutChain: function 7 -/
def spec_PutChain.f (k : Nat) (a0_0 : Int) (l0_1 : List (S29)) (l1_0 : List (S76)) (a1_1 : Int) (a1_2 : Int) (a1_3 : ByteArray) : Option (Int × (List (S29)) × Bool) := (spec_l6Copy.f k a0_0 l0_1).bind fun bt166 => ((spec_InChain.f k a0_0 l0_1 l1_0).bind fun t171 => (if t171 < 0 then ((spec_l4Copy.f l1_0 a1_1 a1_2 a1_3).bind fun bt172 => (if bt166.2.length < 2513169434916 then (some (bt166.1, (bt166.2 ++ [(⟨bt172.1, bt172.2.1, bt172.2.2.1, bt172.2.2.2⟩ : S29)]), true)) else (none))) else (if 0 ≤ t171 then (if t171 < (l0_1.length : Int) then ((spec_Merge.f ((rd_T29 l0_1 t171).f0) ((rd_T29 l0_1 t171).f1) ((rd_T29 l0_1 t171).f2) ((rd_T29 l0_1 t171).f3) l1_0 a1_1 a1_2 a1_3).bind fun bt183 => (if t171 < (bt166.2.length : Int) then (some (bt166.1, (bt166.2.set (t171 : Int).toNat (⟨bt183.1, bt183.2.1, bt183.2.2.1, bt183.2.2.2⟩ : S29)), false)) else (none))) else (none)) else (none))))
def spec_PutChain.T7 : Bool × List (List Nat × List Nat) := (true, [([], []), ([0], [0]), ([], []), ([1, 2], [1, 2]), ([3], [3]), ([], []), ([4, 5], [4, 5]), ([], []), ([7, 6, 6, 0, 1, 2, 3, 4, 5, 6, 7], [6, 7])])
def spec_PutChain.B7 : List Nat := [0, 1, 0, 7, 15, 0, 63, 0, 255]
theorem spec_PutChain.tab7 : rtab .any (opsOf Try.f7 7) = spec_PutChain.T7 := by kernel_rfl
theorem spec_PutChain.bits7 : waitsOk spec_PutChain.T7.2 spec_PutChain.B7 = true := by kernel_rfl
theorem spec_PutChain.calls (k : Nat) (a0_0 : Int) (A0_1 : Option Addr) (c0_1 : Nat) (l0_1 : List (S29)) (A1_0 : Option Addr) (c1_0 : Nat) (l1_0 : List (S76)) (a1_1 : Int) (a1_2 : Int) (a1_3 : ByteArray) (r1 : Int) (r2 : List (S29)) (r3 : Bool) (w : World) (hr0_1 : Kd.C k29 w A0_1 l0_1.length l0_1) (hc0_1 : l0_1.length ≤ c0_1) (hr1_0 : Kd.C k76 w A1_0 l1_0.length l1_0) (hc1_0 : l1_0.length ≤ c1_0) (h : spec_PutChain.f k a0_0 l0_1 l1_0 a1_1 a1_2 a1_3 = some (r1, r2, r3)) :
  Calls Try.prog 7 #[.agg #[.int .i64 a0_0, .slice A0_1 l0_1.length c0_1], .agg #[.slice A1_0 l1_0.length c1_0, .int .i64 a1_1, .int .i64 a1_2, .string a1_3]] w fun e w' => ∃ v1_ : Value, e = .returned (.tuple #[.agg #[.int .i64 r1, v1_], .bool r3]) ∧ Kd.S k29 29 w' w.heap.size (fun _ => True) v1_ r2 ∧ Below w.heap.size w w' := by
 have hu26 := Try.underlying26
 have hu29 := Try.underlying29
 have HR0_1 := aM hr0_1
 have HC0_1 := aM hc0_1
 clear hr0_1 hc0_1
 have HR1_0 := aM hr1_0
 have HC1_0 := aM hc1_0
 clear hr1_0 hc1_0
 have HB := aM (Below.refl w.heap.size w)
 have H : ((spec_l6Copy.f k a0_0 l0_1).bind fun bt166 => ((spec_InChain.f k a0_0 l0_1 l1_0).bind fun t171 => (if t171 < 0 then ((spec_l4Copy.f l1_0 a1_1 a1_2 a1_3).bind fun bt172 => (if bt166.2.length < 2513169434916 then (some (bt166.1, (bt166.2 ++ [(⟨bt172.1, bt172.2.1, bt172.2.2.1, bt172.2.2.2⟩ : S29)]), true)) else (none))) else (if 0 ≤ t171 then (if t171 < (l0_1.length : Int) then ((spec_Merge.f ((rd_T29 l0_1 t171).f0) ((rd_T29 l0_1 t171).f1) ((rd_T29 l0_1 t171).f2) ((rd_T29 l0_1 t171).f3) l1_0 a1_1 a1_2 a1_3).bind fun bt183 => (if t171 < (bt166.2.length : Int) then (some (bt166.1, (bt166.2.set (t171 : Int).toNat (⟨bt183.1, bt183.2.1, bt183.2.2.1, bt183.2.2.2⟩ : S29)), false)) else (none))) else (none)) else (none))))) = some (r1, r2, r3) := h
 clear h; replace H := bs_ H
 obtain ⟨⟨t166, t167⟩, A30, H⟩ := H
 try dsimp only at H
 have A3 := aM A30
 clear A30; replace H := bs_ H; obtain ⟨t171, A40, H⟩ := H; try dsimp only at H
 have A4 := aM A40
 clear A40
 by_cases c5 : t171 < 0
 ·rw [if_pos c5] at H; have c5b0 : decide (t171 < 0) = true := decide_eq_true c5; clear c5; replace H := bs_ H
  obtain ⟨⟨t172, t175, t176, t177⟩, A60, H⟩ := H
  try dsimp only at H
  have A6 := aM A60
  clear A60
  by_cases c7 : t167.length < 2513169434916
  ·rw [if_pos c7] at H
   have LMc7 := aM c7
   clear c7
   obtain ⟨y179, hy179⟩ : ∃ y_ : List (S29), y_ = (t167 ++ [(⟨t172, t175, t176, t177⟩ : S29)]) := ⟨_, rfl⟩
   replace H : (some (t166, y179, true)) = some (r1, r2, r3) := by first | (rw [hy179]; exact H) | exact H
   have Ny179 := aM hy179
   clear hy179
   simp only [Option.some.injEq, Prod.mk.injEq] at H
   obtain ⟨rfl, rfl, rfl⟩ := H
   go_enter Try.func7, Try.ntmps7
   go_wp2_with (first | (refine be_ 2 #[.int .i64 a0_0, .slice A0_1 l0_1.length c0_1] 26 ?_; intro gb163 hg w8 hbox hb; have BK163 := aM (hbox); have GW163 := gw hg (bw HB); have GE163 := gw hg (bw HB); replace HB := aM (below_step (bw HB) hb); clear hb hbox hg) | (refine be_ 3 #[.slice A1_0 l1_0.length c1_0, .int .i64 a1_1, .int .i64 a1_2, .string a1_3] 29 ?_; intro gb164 hg w9 hbox hb; have BK164 := aM (hbox); have GW164 := gw hg (bw HB); have GE164 := gw hg (bw HB); replace HB := aM (below_step (bw HB) hb); have NB163_164 := nb1 hg BK163; have NB164_163 := nb2 hg BK163; replace BK163 := bb BK163 hb; clear hb hbox hg) | (refine be_ 4 #[.int .i64 0, .slice none 0 0] 26 ?_; intro gb165 hg w10 hbox hb; have BK165 := aM (hbox); have GW165 := gw hg (bw HB); have GE165 := gw hg (bw HB); replace HB := aM (below_step (bw HB) hb); have NB163_165 := nb1 hg BK163; have NB165_163 := nb2 hg BK163; replace BK163 := bb BK163 hb; have NB164_165 := nb1 hg BK164; have NB165_164 := nb2 hg BK164; replace BK164 := bb BK164 hb; clear hb hbox hg; have hnb11 := NB163_164.out; have hnc11 := NB164_163.out; have hnb12 := NB163_165.out; have hnc12 := NB165_163.out; obtain ⟨hcz13_0, hcz13_1⟩ := zc2 BK163; have hfz13_0 := zf BK163) | (refine gl_ (some 11) Try.func30 #[.agg #[.int .i64 a0_0, .slice A0_1 l0_1.length c0_1]] ?_; (with_reducible refine (spec_l6Copy.calls k a0_0 _ _ l0_1 t166 t167 _ ?side1 ?side2 A3.out).mono ?_); (case side1 => exact cA (Kd.C_below HR0_1.out HB.out)); (case side2 => exact HC0_1.out); rintro e w14 ⟨v168, rfl, ho0, hb⟩; refine ⟨_, rfl, ?_⟩; have HO169 := aM (Kd.S_lower (Kd.S_newB ho0 (g := gb164) (aB BK164)) (below_size (bw HB))); replace BK163 := bb BK163 hb; replace BK164 := bb BK164 hb; replace BK165 := bb BK165 hb; replace HB := aM (below_step (bw HB) hb); (try clear hb); (try clear hb2); (try clear hk); (try clear hi); (try clear ho0)) | (refine be_ 6 #[.int .i64 0, .slice none 0 0] 26 ?_; intro gb170 hg w15 hbox hb; replace HO169 := aM (Kd.S_below (sS HO169.out) hb); have BK170 := aM (hbox); have GW170 := gw hg (bw HB); have GE170 := gw hg (bw HB); replace HB := aM (below_step (bw HB) hb); have NB163_170 := nb1 hg BK163; have NB170_163 := nb2 hg BK163; replace BK163 := bb BK163 hb; have NB164_170 := nb1 hg BK164; have NB170_164 := nb2 hg BK164; replace BK164 := bb BK164 hb; have NB165_170 := nb1 hg BK165; have NB170_165 := nb2 hg BK165; replace BK165 := bb BK165 hb; clear hb hbox hg; have hnb16 := NB170_163.out; have hnc16 := NB163_170.out; have hnb17 := NB170_164.out; have hnc17 := NB164_170.out; have hnb18 := NB170_165.out; have hnc18 := NB165_170.out; obtain ⟨hcz19_0, hcz19_1⟩ := zc2 BK170; have hfz19_0 := zf BK170; obtain ⟨Ao20, co20, eo20⟩ := Kd.S_slice HO169.out; subst eo20; obtain ⟨hcz21_0, hcz21_1⟩ := zc2 BK163; have hfz21_0 := zf BK163; have hnb22 := NB164_165.out; have hnc22 := NB165_164.out; obtain ⟨hcz23_0, hcz23_1, hcz23_2, hcz23_3⟩ := zc4 BK164; have hfz23_0 := zf BK164) | (refine gl_ (some 15) Try.func20 #[.agg #[.int .i64 a0_0, .slice A0_1 l0_1.length c0_1], .slice A1_0 l1_0.length c1_0] ?_; (with_reducible refine (spec_InChain.calls k a0_0 _ _ l0_1 _ _ l1_0 t171 _ ?side1 ?side2 ?side3 ?side4 A4.out).mono ?_); (case side1 => exact Kd.C_below HR0_1.out (bw HB)); (case side2 => exact HC0_1.out); (case side3 => exact Kd.C_below HR1_0.out (bw HB)); (case side4 => exact HC1_0.out); rintro e w24 ⟨rfl, hb⟩; refine ⟨_, rfl, ?_⟩; replace HO169 := aM (Kd.S_below (by (with_reducible repeat (first | apply Kd.S_alloc | apply Kd.S_drewN | apply Kd.S_drew)); exact (Kd.S_mono (Kd.S_far (p := ⟨gb170, 1, none⟩) (Kd.S_far (p := ⟨gb170, 0, none⟩) (Kd.S_types HO169.out BK170.out (by decide)) (fun _ hk => hk.2) (.int .i64 t166)) (fun _ hk => hk.2) (.slice Ao20 t167.length co20)) (fun _ h_ => h_.1))) hb); replace BK163 := aM (blk_below (g := gb163) (o := .cells #[.int .i64 a0_0, .slice A0_1 l0_1.length c0_1] 26 (0, 0)) (by refine blk_far ?_ NB163_170.out _; refine blk_far ?_ NB163_170.out _; exact aB BK163) hb); replace BK164 := aM (blk_below (g := gb164) (o := .cells #[.slice A1_0 l1_0.length c1_0, .int .i64 a1_1, .int .i64 a1_2, .string a1_3] 29 (0, 0)) (by refine blk_far ?_ NB164_170.out _; refine blk_far ?_ NB164_170.out _; exact aB BK164) hb); replace BK165 := aM (blk_below (g := gb165) (o := .cells #[.int .i64 0, .slice none 0 0] 26 (0, 0)) (by refine blk_far ?_ NB165_170.out _; refine blk_far ?_ NB165_170.out _; exact aB BK165) hb); replace BK170 := aM (blk_below (g := gb170) (o := .cells #[.int .i64 t166, .slice Ao20 t167.length co20] 26 (0, 0)) (by refine blk_put (cs := #[.int .i64 t166, .slice none 0 0]) ?_ 1 _ rfl; refine blk_put (cs := #[.int .i64 0, .slice none 0 0]) ?_ 0 _ rfl; exact aB BK170) hb); replace HB := aM (below_step (bw HB) hb); (try clear hb); (try clear hb2); (try clear hk); (try clear hi); obtain ⟨hcz25_0, hcz25_1, hcz25_2, hcz25_3⟩ := zc4 BK164; have hfz25_0 := zf BK164) | (refine gl_ (some 19) Try.func31 #[.agg #[.slice A1_0 l1_0.length c1_0, .int .i64 a1_1, .int .i64 a1_2, .string a1_3]] ?_; (with_reducible refine (spec_l4Copy.calls _ _ l1_0 a1_1 a1_2 a1_3 t172 t175 t176 t177 _ ?side1 ?side2 A6.out).mono ?_); (case side1 => exact cA (Kd.C_below HR1_0.out HB.out)); (case side2 => exact HC1_0.out); rintro e w26 ⟨v173, rfl, ho0, hb⟩; refine ⟨_, rfl, ?_⟩; replace HO169 := aM (Kd.S_elder' (sS HO169.out) (Kd.R_base ho0) hb); have HO174 := aM (Kd.R_lower ho0 (below_size (bw HB))); replace BK163 := bb BK163 hb; replace BK164 := bb BK164 hb; replace BK165 := bb BK165 hb; replace BK170 := bb BK170 hb; replace HB := aM (below_step (bw HB) hb); (try clear hb); (try clear hb2); (try clear hk); (try clear hi); (try clear ho0)) | (refine be_ 8 #[.slice none 0 0, .int .i64 0, .int .i64 0, .string (⟨#[]⟩ : ByteArray)] 29 ?_; intro gb178 hg w27 hbox hb; replace HO169 := aM (Kd.S_below (Kd.S_elderB (sS HO169.out) gb178 (Nat.le_of_eq hg.symm)) hb); replace HO174 := rb HO174 hb; have BK178 := aM (hbox); have GW178 := gw hg (bw HB); have GE178 := gw hg (bw HB); replace HB := aM (below_step (bw HB) hb); have NB163_178 := nb1 hg BK163; have NB178_163 := nb2 hg BK163; replace BK163 := bb BK163 hb; have NB164_178 := nb1 hg BK164; have NB178_164 := nb2 hg BK164; replace BK164 := bb BK164 hb; have NB165_178 := nb1 hg BK165; have NB178_165 := nb2 hg BK165; replace BK165 := bb BK165 hb; have NB170_178 := nb1 hg BK170; have NB178_170 := nb2 hg BK170; replace BK170 := bb BK170 hb; clear hb hbox hg; obtain ⟨Ao28, co28, eo28⟩ := Kd.R_slice HO174.out; subst eo28; have hnb29 := NB178_163.out; have hnc29 := NB163_178.out; have hnb30 := NB178_164.out; have hnc30 := NB164_178.out; have hnb31 := NB178_165.out; have hnc31 := NB165_178.out; have hnb32 := NB178_170.out; have hnc32 := NB170_178.out; obtain ⟨hcz33_0, hcz33_1, hcz33_2, hcz33_3⟩ := zc4 BK178; have hfz33_0 := zf BK178) | ((with_reducible refine gate_store (t := 29) (p := 8) rfl ?_); refine store_event (t := 29) (p := 8) (v := ?vo_w34) (w1 := ((((w27.setCell ⟨gb178, 0, none⟩ (.slice Ao28 t172.length co28)).setCell ⟨gb178, 1, none⟩ (.int .i64 t175)).setCell ⟨gb178, 2, none⟩ (.int .i64 t176)).setCell ⟨gb178, 3, none⟩ (.string t177))) ?hg ?ho ?hn ?hr ?_; (case ho => rfl); (case hg => rfl); (case hn => rfl); (case hr => first | (go_simp; done) | (go_simp; rfl)); intro w34 hw; have n0_ : Aside0 (Kd.S k29 29 w34 w.heap.size (fun k_ => some k_ ≠ (.slice Ao28 t172.length co28 : Value).ownBlock ∧ k_ ≠ gb164 ∧ k_ ≠ gb178) (.slice Ao20 t167.length co20) t167) := ⟨(by rw [hw]; exact (by (with_reducible repeat (first | apply Kd.S_alloc | apply Kd.S_drewN | apply Kd.S_drew)); exact Kd.S_mono (Kd.S_far (p := ⟨gb178, 3, none⟩) (Kd.S_far (p := ⟨gb178, 2, none⟩) (Kd.S_far (p := ⟨gb178, 1, none⟩) (Kd.S_far (p := ⟨gb178, 0, none⟩) (Kd.S_mono HO169.out (fun k_ hk => (⟨hk, hk.2⟩ : _ ∧ k_ ≠ gb178))) (fun _ hk => hk.2) (.slice Ao28 t172.length co28)) (fun _ hk => hk.2) (.int .i64 t175)) (fun _ hk => hk.2) (.int .i64 t176)) (fun _ hk => hk.2) (.string t177)) (fun _ hk => ⟨hk.1.1.2, ⟨hk.1.1.1.2, hk.1.2⟩⟩)))⟩; have n1_ : Aside0 (Kd.R k76 76 w34 w.heap.size (fun _ => True) (.slice Ao28 t172.length co28) t172) := ⟨(by rw [hw]; exact (by (with_reducible repeat (first | apply aR1 | apply aR2 | apply aR3)); exact Kd.R_mono (Kd.R_far (p := ⟨gb178, 3, none⟩) (Kd.R_far (p := ⟨gb178, 2, none⟩) (Kd.R_far (p := ⟨gb178, 1, none⟩) (Kd.R_far (p := ⟨gb178, 0, none⟩) (Kd.R_types HO174.out BK178.out (by decide)) (fun _ hk => hk.2) (.slice Ao28 t172.length co28)) (fun _ hk => hk.2) (.int .i64 t175)) (fun _ hk => hk.2) (.int .i64 t176)) (fun _ hk => hk.2) (.string t177)) (fun _ hk => trivial)))⟩; have n2_ : Aside0 (w34.heap[gb163]? = some (.cells #[.int .i64 a0_0, .slice A0_1 l0_1.length c0_1] 26 (0, 0))) := ⟨(by rw [hw]; exact (by refine blk_far ?_ NB163_178.out _; refine blk_far ?_ NB163_178.out _; refine blk_far ?_ NB163_178.out _; refine blk_far ?_ NB163_178.out _; exact aB BK163))⟩; have n3_ : Aside0 (w34.heap[gb164]? = some (.cells #[.slice A1_0 l1_0.length c1_0, .int .i64 a1_1, .int .i64 a1_2, .string a1_3] 29 (0, 0))) := ⟨(by rw [hw]; exact (by refine blk_far ?_ NB164_178.out _; refine blk_far ?_ NB164_178.out _; refine blk_far ?_ NB164_178.out _; refine blk_far ?_ NB164_178.out _; exact aB BK164))⟩; have n4_ : Aside0 (w34.heap[gb165]? = some (.cells #[.int .i64 0, .slice none 0 0] 26 (0, 0))) := ⟨(by rw [hw]; exact (by refine blk_far ?_ NB165_178.out _; refine blk_far ?_ NB165_178.out _; refine blk_far ?_ NB165_178.out _; refine blk_far ?_ NB165_178.out _; exact aB BK165))⟩; have n5_ : Aside0 (w34.heap[gb170]? = some (.cells #[.int .i64 t166, .slice Ao20 t167.length co20] 26 (0, 0))) := ⟨(by rw [hw]; exact (by refine blk_far ?_ NB170_178.out _; refine blk_far ?_ NB170_178.out _; refine blk_far ?_ NB170_178.out _; refine blk_far ?_ NB170_178.out _; exact aB BK170))⟩; have n6_ : Aside0 (w34.heap[gb178]? = some (.cells #[.slice Ao28 t172.length co28, .int .i64 t175, .int .i64 t176, .string t177] 29 (0, 0))) := ⟨(by rw [hw]; exact (by refine blk_put (cs := #[.slice Ao28 t172.length co28, .int .i64 t175, .int .i64 t176, .string (⟨#[]⟩ : ByteArray)]) ?_ 3 _ rfl; refine blk_put (cs := #[.slice Ao28 t172.length co28, .int .i64 t175, .int .i64 0, .string (⟨#[]⟩ : ByteArray)]) ?_ 2 _ rfl; refine blk_put (cs := #[.slice Ao28 t172.length co28, .int .i64 0, .int .i64 0, .string (⟨#[]⟩ : ByteArray)]) ?_ 1 _ rfl; refine blk_put (cs := #[.slice none 0 0, .int .i64 0, .int .i64 0, .string (⟨#[]⟩ : ByteArray)]) ?_ 0 _ rfl; exact aB BK178))⟩; have n7_ : Aside0 (Below w.heap.size w w34) := ⟨(by rw [hw]; exact (bw HB))⟩; clear hw HO169 HO174 BK163 BK164 BK165 BK170 BK178 HB; have HO169 := n0_; have HO174 := n1_; have BK163 := n2_; have BK164 := n3_; have BK165 := n4_; have BK170 := n5_; have BK178 := n6_; have HB := n7_; clear n0_ n1_ n2_ n3_ n4_ n5_ n6_ n7_; obtain ⟨hcz35_0, hcz35_1⟩ := zc2 BK170; have hfz35_0 := zf BK170; obtain ⟨hcz36_0, hcz36_1, hcz36_2, hcz36_3⟩ := zc4 BK178; have hfz36_0 := zf BK178) | ((with_reducible refine gate_builtin (b := .append) (xs := #[.tmp 21, .tmp 23]) rfl ?_); at_builtin; refine Kd.S_append k29 (w0 := w) w.heap.size rfl (.tmp 21) (.tmp 23) 24 29 (.agg #[(.slice none 0 0), (.int .i64 0), (.int .i64 0), (.string ⟨#[]⟩)]) 56 rfl Try.underlying24 info29 rfl (by decide) (by omega) (.slice Ao20 t167.length co20) t167 (⟨t172, t175, t176, t177⟩ : S29) [.slice Ao28 t172.length co28, .int .i64 t175, .int .i64 t176, .string t177] (fun k_ => k_ ≠ gb164 ∧ k_ ≠ gb178) (fun k_ => some k_ = (.slice Ao28 t172.length co28 : Value).ownBlock) rfl rfl ?aP (fun k_ hk_ => ((Kd.R_mono (ok' := fun k_ => ((fun k_ => k_ ≠ gb164 ∧ k_ ≠ gb178)) k_ ∧ some k_ ≠ (.slice Ao20 t167.length co20 : Value).ownBlock) (Kd.R_types (Kd.R_types (Kd.R_apart' (HO174.out) (Kd.S_typed HO169.out) (by decide)) BK164.out (by decide)) BK178.out (by decide)) (fun k_ hk => ⟨⟨hk.1.2, hk.2⟩, hk.1.1.2⟩))).1 k_ hk_.symm) ?aF ?aO ?aB ?aS ?aL ?_; (case aP => exact k29_mkM _ _ _ (⟨t172, t175, t176, t177⟩ : S29) (Kd.R_mono (Kd.R_tight rfl (Kd.R_mono (ok' := fun k_ => ((fun k_ => k_ ≠ gb164 ∧ k_ ≠ gb178)) k_ ∧ some k_ ≠ (.slice Ao20 t167.length co20 : Value).ownBlock) (Kd.R_types (Kd.R_types (Kd.R_apart' (HO174.out) (Kd.S_typed HO169.out) (by decide)) BK164.out (by decide)) BK178.out (by decide)) (fun k_ hk => ⟨⟨hk.1.2, hk.2⟩, hk.1.1.2⟩))) (fun _ h_ => h_))); (case aB => exact (bw HB)); (case aF => exact (fun k_ hk => ⟨Kd.freshB (g := gb164) (aB BK164) k_ hk, Kd.freshB (g := gb178) (aB BK178) k_ hk⟩)); (case aO => exact (by (with_reducible repeat (first | apply Kd.S_alloc | apply Kd.S_drewN | apply Kd.S_drew)); exact Kd.S_mono HO169.out (fun k_ hk => ⟨⟨hk.2.1, hk.2.2⟩, fun e_ => hk.1 e_⟩))); (case aS => exact (below_size (bw HB))); (case aL => have := LMc7.out; omega); intro v180 w37 ho hb hg hat; rw [← Ny179.out] at ho; replace BK163 := aM (blk_grown (g := gb163) (aB BK163) hg (Kd.S_ne HO169.out BK163.out (by decide))); replace BK164 := aM (blk_grown (g := gb164) (aB BK164) hg (Kd.S_away HO169.out (fun _ hk => hk.2.1))); replace BK165 := aM (blk_grown (g := gb165) (aB BK165) hg (Kd.S_ne HO169.out BK165.out (by decide))); replace BK170 := aM (blk_grown (g := gb170) (aB BK170) hg (Kd.S_ne HO169.out BK170.out (by decide))); replace BK178 := aM (blk_grown (g := gb178) (aB BK178) hg (Kd.S_away HO169.out (fun _ hk => hk.2.2))); replace HB := aM (hb); have HO181 := aM (ho); clear HO169 HO174 ho hb hg hat; obtain ⟨Ao38, co38, eo38⟩ := Kd.S_slice HO181.out; subst eo38; obtain ⟨hcz39_0, hcz39_1⟩ := zc2 BK170; have hfz39_0 := zf BK170; obtain ⟨hcz40_0, hcz40_1⟩ := zc2 BK165; have hfz40_0 := zf BK165))
   refine bodyPost_ret (results_ct rfl _ _ gb165 26 #[.int .i64 t166, .slice Ao38 y179.length co38] (0, 0) _ rfl (by refine blk_put (cs := #[.int .i64 t166, .slice none 0 0]) ?_ 1 _ rfl; refine blk_put (cs := #[.int .i64 0, .slice none 0 0]) ?_ 0 _ rfl; refine blk_far ?_ NB165_170.out _; exact aB BK165) Try.underlying26 rfl (by kernel_rfl)) rfl ?_
   exact ⟨_, er, by (with_reducible repeat (first | apply Kd.S_alloc | apply Kd.S_drewN | apply Kd.S_drew)); exact Kd.S_mono (Kd.S_far (p := ⟨gb165, 1, none⟩) (Kd.S_far (p := ⟨gb165, 0, none⟩) (Kd.S_far (p := ⟨gb170, 1, none⟩) (Kd.S_types (Kd.S_types HO181.out BK170.out (by decide)) BK165.out (by decide)) (fun _ hk => hk.1.2) (.slice Ao38 y179.length co38)) (fun _ hk => hk.2) (.int .i64 t166)) (fun _ hk => hk.2) (.slice Ao38 y179.length co38)) (fun _ hk => trivial), (bw HB)⟩
  ·rw [if_neg c7] at H
   exact absurd H (by simp)
 ·rw [if_neg c5] at H; have c5b0 : decide (t171 < 0) = false := decide_eq_false c5; clear c5
  by_cases c41 : 0 ≤ t171
  ·rw [if_pos c41] at H; have c41b0 : decide (0 ≤ t171) = true := decide_eq_true c41; clear c41
   by_cases c42 : t171 < (l0_1.length : Int)
   ·rw [if_pos c42] at H; have c42b0 : decide (t171 < (l0_1.length : Int)) = true := decide_eq_true c42; clear c42; replace H := bs_ H
    obtain ⟨⟨t183, t186, t187, t188⟩, A430, H⟩ := H
    try dsimp only at H
    have A43 := aM A430
    clear A430
    by_cases c44 : t171 < (t167.length : Int)
    ·rw [if_pos c44] at H; have c44b0 : decide (t171 < (t167.length : Int)) = true := decide_eq_true c44; clear c44
     obtain ⟨y190, hy190⟩ : ∃ y_ : List (S29), y_ = (t167.set (t171 : Int).toNat (⟨t183, t186, t187, t188⟩ : S29)) := ⟨_, rfl⟩
     replace H : (some (t166, y190, false)) = some (r1, r2, r3) := by first | (rw [hy190]; exact H) | exact H
     have Ny190 := aM hy190
     clear hy190
     simp only [Option.some.injEq, Prod.mk.injEq] at H
     obtain ⟨rfl, rfl, rfl⟩ := H
     go_enter Try.func7, Try.ntmps7
     try go_wp2_with (first | (refine be_ 2 #[.int .i64 a0_0, .slice A0_1 l0_1.length c0_1] 26 ?_; intro gb163 hg w46 hbox hb; have BK163 := aM (hbox); have GW163 := gw hg (bw HB); have GE163 := gw hg (bw HB); replace HB := aM (below_step (bw HB) hb); clear hb hbox hg) | (refine be_ 3 #[.slice A1_0 l1_0.length c1_0, .int .i64 a1_1, .int .i64 a1_2, .string a1_3] 29 ?_; intro gb164 hg w47 hbox hb; have BK164 := aM (hbox); have GW164 := gw hg (bw HB); have GE164 := gw hg (bw HB); replace HB := aM (below_step (bw HB) hb); have NB163_164 := nb1 hg BK163; have NB164_163 := nb2 hg BK163; replace BK163 := bb BK163 hb; clear hb hbox hg) | (refine be_ 4 #[.int .i64 0, .slice none 0 0] 26 ?_; intro gb165 hg w48 hbox hb; have BK165 := aM (hbox); have GW165 := gw hg (bw HB); have GE165 := gw hg (bw HB); replace HB := aM (below_step (bw HB) hb); have NB163_165 := nb1 hg BK163; have NB165_163 := nb2 hg BK163; replace BK163 := bb BK163 hb; have NB164_165 := nb1 hg BK164; have NB165_164 := nb2 hg BK164; replace BK164 := bb BK164 hb; clear hb hbox hg; have hnb49 := NB163_164.out; have hnc49 := NB164_163.out; have hnb50 := NB163_165.out; have hnc50 := NB165_163.out; obtain ⟨hcz51_0, hcz51_1⟩ := zc2 BK163; have hfz51_0 := zf BK163) | (refine gl_ (some 11) Try.func30 #[.agg #[.int .i64 a0_0, .slice A0_1 l0_1.length c0_1]] ?_; (with_reducible refine (spec_l6Copy.calls k a0_0 _ _ l0_1 t166 t167 _ ?side1 ?side2 A3.out).mono ?_); (case side1 => exact cA (Kd.C_below HR0_1.out HB.out)); (case side2 => exact HC0_1.out); rintro e w52 ⟨v168, rfl, ho0, hb⟩; refine ⟨_, rfl, ?_⟩; have HO169 := aM (Kd.S_lower (Kd.S_newB ho0 (g := gb164) (aB BK164)) (below_size (bw HB))); replace BK163 := bb BK163 hb; replace BK164 := bb BK164 hb; replace BK165 := bb BK165 hb; replace HB := aM (below_step (bw HB) hb); (try clear hb); (try clear hb2); (try clear hk); (try clear hi); (try clear ho0)) | (refine be_ 6 #[.int .i64 0, .slice none 0 0] 26 ?_; intro gb170 hg w53 hbox hb; replace HO169 := aM (Kd.S_below (sS HO169.out) hb); have BK170 := aM (hbox); have GW170 := gw hg (bw HB); have GE170 := gw hg (bw HB); replace HB := aM (below_step (bw HB) hb); have NB163_170 := nb1 hg BK163; have NB170_163 := nb2 hg BK163; replace BK163 := bb BK163 hb; have NB164_170 := nb1 hg BK164; have NB170_164 := nb2 hg BK164; replace BK164 := bb BK164 hb; have NB165_170 := nb1 hg BK165; have NB170_165 := nb2 hg BK165; replace BK165 := bb BK165 hb; clear hb hbox hg; have hnb54 := NB170_163.out; have hnc54 := NB163_170.out; have hnb55 := NB170_164.out; have hnc55 := NB164_170.out; have hnb56 := NB170_165.out; have hnc56 := NB165_170.out; obtain ⟨hcz57_0, hcz57_1⟩ := zc2 BK170; have hfz57_0 := zf BK170; obtain ⟨Ao58, co58, eo58⟩ := Kd.S_slice HO169.out; subst eo58; obtain ⟨hcz59_0, hcz59_1⟩ := zc2 BK163; have hfz59_0 := zf BK163; have hnb60 := NB164_165.out; have hnc60 := NB165_164.out; obtain ⟨hcz61_0, hcz61_1, hcz61_2, hcz61_3⟩ := zc4 BK164; have hfz61_0 := zf BK164) | (refine gl_ (some 15) Try.func20 #[.agg #[.int .i64 a0_0, .slice A0_1 l0_1.length c0_1], .slice A1_0 l1_0.length c1_0] ?_; (with_reducible refine (spec_InChain.calls k a0_0 _ _ l0_1 _ _ l1_0 t171 _ ?side1 ?side2 ?side3 ?side4 A4.out).mono ?_); (case side1 => exact Kd.C_below HR0_1.out (bw HB)); (case side2 => exact HC0_1.out); (case side3 => exact Kd.C_below HR1_0.out (bw HB)); (case side4 => exact HC1_0.out); rintro e w62 ⟨rfl, hb⟩; refine ⟨_, rfl, ?_⟩; replace HO169 := aM (Kd.S_below (by (with_reducible repeat (first | apply Kd.S_alloc | apply Kd.S_drewN | apply Kd.S_drew)); exact (Kd.S_mono (Kd.S_far (p := ⟨gb170, 1, none⟩) (Kd.S_far (p := ⟨gb170, 0, none⟩) (Kd.S_types HO169.out BK170.out (by decide)) (fun _ hk => hk.2) (.int .i64 t166)) (fun _ hk => hk.2) (.slice Ao58 t167.length co58)) (fun _ h_ => h_.1))) hb); replace BK163 := aM (blk_below (g := gb163) (o := .cells #[.int .i64 a0_0, .slice A0_1 l0_1.length c0_1] 26 (0, 0)) (by refine blk_far ?_ NB163_170.out _; refine blk_far ?_ NB163_170.out _; exact aB BK163) hb); replace BK164 := aM (blk_below (g := gb164) (o := .cells #[.slice A1_0 l1_0.length c1_0, .int .i64 a1_1, .int .i64 a1_2, .string a1_3] 29 (0, 0)) (by refine blk_far ?_ NB164_170.out _; refine blk_far ?_ NB164_170.out _; exact aB BK164) hb); replace BK165 := aM (blk_below (g := gb165) (o := .cells #[.int .i64 0, .slice none 0 0] 26 (0, 0)) (by refine blk_far ?_ NB165_170.out _; refine blk_far ?_ NB165_170.out _; exact aB BK165) hb); replace BK170 := aM (blk_below (g := gb170) (o := .cells #[.int .i64 t166, .slice Ao58 t167.length co58] 26 (0, 0)) (by refine blk_put (cs := #[.int .i64 t166, .slice none 0 0]) ?_ 1 _ rfl; refine blk_put (cs := #[.int .i64 0, .slice none 0 0]) ?_ 0 _ rfl; exact aB BK170) hb); replace HB := aM (below_step (bw HB) hb); (try clear hb); (try clear hb2); (try clear hk); (try clear hi)))
     replace HO169 := aM (Kd.S_drew HO169.out)
     replace BK163 := aM (blk_drew BK163.out)
     replace BK164 := aM (blk_drew BK164.out)
     replace BK165 := aM (blk_drew BK165.out)
     replace BK170 := aM (blk_drew BK170.out)
     replace HB := aM (below_drew1 HB.out)
     have p182 : 0 ≤ (t171 : Int) := of_decide_eq_true as_
     have q182 : t171 < (l0_1.length : Int) := of_decide_eq_true as_
     obtain ⟨ad182, A182_0, c182_0, e182, hx182_0, hx182_1, hx182_2, hx182_3, hl182_0, hi182_0⟩ := at_T29 HR0_1.out t171 p182 q182
     have hw182_3 := hx182_3
     have hw182_2 := hx182_2
     have hw182_1 := hx182_1
     have hw182_0 := hx182_0
     cases e182
     replace hx182_0 := cb HB hx182_0
     replace hx182_1 := cb HB hx182_1
     replace hx182_2 := cb HB hx182_2
     replace hx182_3 := cb HB hx182_3
     have HR182_0 := aM hi182_0
     have HC182_0 := aM hl182_0
     clear hi182_0 hl182_0
     replace p182 := eq_true p182
     replace q182 := eq_true q182
     refine start_ (n := 9) (S := fun w' => w'.cell? ⟨gb163, 0, none⟩ = some (.int .i64 a0_0) ∧ w'.cell? ⟨gb163, 1, none⟩ = some (.slice (some ad182) l0_1.length c0_1) ∧ w'.cell? ⟨gb164, 0, none⟩ = some (.slice A1_0 l1_0.length c1_0) ∧ w'.cell? ⟨gb164, 1, none⟩ = some (.int .i64 a1_1) ∧ w'.cell? ⟨gb164, 2, none⟩ = some (.int .i64 a1_2) ∧ w'.cell? ⟨gb164, 3, none⟩ = some (.string a1_3) ∧ w'.cell? (ad182.add ((t171).toNat * 4)) = some (.slice A182_0 ((rd_T29 l0_1 t171).f0).length c182_0) ∧ w'.cell? ⟨(ad182.add ((t171).toNat * 4)).block, (ad182.add ((t171).toNat * 4)).off + 1, none⟩ = some (.int .i64 ((rd_T29 l0_1 t171).f1)) ∧ w'.cell? ⟨(ad182.add ((t171).toNat * 4)).block, (ad182.add ((t171).toNat * 4)).off + 2, none⟩ = some (.int .i64 ((rd_T29 l0_1 t171).f2)) ∧ w'.cell? ⟨(ad182.add ((t171).toNat * 4)).block, (ad182.add ((t171).toNat * 4)).off + 3, none⟩ = some (.string ((rd_T29 l0_1 t171).f3))) (ds := []) (bz 9 0) (by kernel_rfl) rfl (by kernel_rfl) ⟨(blk_cell BK163.out 0).trans rfl, (blk_cell BK163.out 1).trans rfl, (blk_cell BK164.out 0).trans rfl, (blk_cell BK164.out 1).trans rfl, (blk_cell BK164.out 2).trans rfl, (blk_cell BK164.out 3).trans rfl, (cB HB hw182_0), (cB HB hw182_1), (cB HB hw182_2), (cB HB hw182_3)⟩ (fun hHeld => ?_); refine with_tabW spec_PutChain.tab7 spec_PutChain.bits7 (fun HT_ HW_ => ?_)
     generalize w62.drew = w63 at HO169 BK163 BK164 BK165 BK170 HB HR182_0 hx182_0 hx182_1 hx182_2 hx182_3 hHeld ⊢
     refine (pu 0 (some 27) 1 ?_ ?_ HT_ ?_ ?_ ?_ (pu 2 (some 29) 5 ?_ ?_ HT_ ?_ ?_ ?_ (tk 1 (some 28) 7 ?_ ?_ HT_ HW_ hHeld ?_ ?_ ?_ (pu 3 (some 30) 15 ?_ ?_ HT_ ?_ ?_ ?_ (tk 4 (some 31) 31 ?_ ?_ HT_ HW_ hHeld ?_ ?_ ?_ (tk 5 (some 32) 63 ?_ ?_ HT_ HW_ hHeld ?_ ?_ ?_ ?_))))))
     all_goals first | (rintro w' ⟨s0, s1, s2, s3, s4, s5, s6, s7, s8, s9⟩; go_simp; with_reducible rfl) | (intro w'; go_simp; with_reducible rfl) | (simp only [u6_]; rfl) | rfl | skip
     refine join_ (σ := Value × Nat) 1 (bz 9 255) (fun s_ => [(33, .agg #[s_.1, .int .i64 t186, .int .i64 t187, .string t188]), (9, .pointer (some ⟨s_.2, 0, none⟩))]) (fun s_ w' => (w'.cell? ⟨gb163, 0, none⟩ = some (.int .i64 a0_0) ∧ w'.cell? ⟨gb163, 1, none⟩ = some (.slice (some ad182) l0_1.length c0_1) ∧ w'.cell? ⟨gb164, 0, none⟩ = some (.slice A1_0 l1_0.length c1_0) ∧ w'.cell? ⟨gb164, 1, none⟩ = some (.int .i64 a1_1) ∧ w'.cell? ⟨gb164, 2, none⟩ = some (.int .i64 a1_2) ∧ w'.cell? ⟨gb164, 3, none⟩ = some (.string a1_3) ∧ w'.cell? (ad182.add ((t171).toNat * 4)) = some (.slice A182_0 ((rd_T29 l0_1 t171).f0).length c182_0) ∧ w'.cell? ⟨(ad182.add ((t171).toNat * 4)).block, (ad182.add ((t171).toNat * 4)).off + 1, none⟩ = some (.int .i64 ((rd_T29 l0_1 t171).f1)) ∧ w'.cell? ⟨(ad182.add ((t171).toNat * 4)).block, (ad182.add ((t171).toNat * 4)).off + 2, none⟩ = some (.int .i64 ((rd_T29 l0_1 t171).f2)) ∧ w'.cell? ⟨(ad182.add ((t171).toNat * 4)).block, (ad182.add ((t171).toNat * 4)).off + 3, none⟩ = some (.string ((rd_T29 l0_1 t171).f3))) ∧ (Kd.S k29 29 w' w.heap.size (fun k_ => some k_ ≠ (s_.1 : Value).ownBlock ∧ k_ ≠ gb164 ∧ k_ ≠ s_.2) (.slice Ao58 t167.length co58) t167) ∧ (Kd.R k76 76 w' w.heap.size (fun _ => True) s_.1 t183) ∧ (w'.heap[gb163]? = some (.cells #[.int .i64 a0_0, .slice (some ad182) l0_1.length c0_1] 26 (0, 0))) ∧ (w'.heap[gb164]? = some (.cells #[.slice A1_0 l1_0.length c1_0, .int .i64 a1_1, .int .i64 a1_2, .string a1_3] 29 (0, 0))) ∧ (w'.heap[gb165]? = some (.cells #[.int .i64 0, .slice none 0 0] 26 (0, 0))) ∧ (w'.heap[gb170]? = some (.cells #[.int .i64 t166, .slice Ao58 t167.length co58] 26 (0, 0))) ∧ (w'.heap[s_.2]? = some (.cells #[.slice none 0 0, .int .i64 0, .int .i64 0, .string (⟨#[]⟩ : ByteArray)] 29 (0, 0))) ∧ (w.heap.size ≤ s_.2) ∧ (w.heap.size ≤ s_.2) ∧ (gb163 ≠ s_.2) ∧ (s_.2 ≠ gb163) ∧ (gb164 ≠ s_.2) ∧ (s_.2 ≠ gb164) ∧ (gb165 ≠ s_.2) ∧ (s_.2 ≠ gb165) ∧ (gb170 ≠ s_.2) ∧ (s_.2 ≠ gb170) ∧ (Below w.heap.size w w')) ?_ ?_
     rotate_left
     ·intro hCont
      refine two_ (i := 6) (j := 7) (Ni := some 33) (Nj := some 9) (bz 9 127) (bz 9 191) rfl rfl rfl rfl (two_of HT_.out (by kernel_rfl)) (by decide) (by decide) (fun K hK => ?_) (fun K hK => ?_)
      ·skip
       refine goes_ Try.func32 (by kernel_rfl) rfl #[.agg #[.slice A182_0 ((rd_T29 l0_1 t171).f0).length c182_0, .int .i64 ((rd_T29 l0_1 t171).f1), .int .i64 ((rd_T29 l0_1 t171).f2), .string ((rd_T29 l0_1 t171).f3)], .agg #[.slice A1_0 l1_0.length c1_0, .int .i64 a1_1, .int .i64 a1_2, .string a1_3]] (by rfl) rfl rfl mp ?_
       with_reducible refine (spec_Merge.calls _ _ ((rd_T29 l0_1 t171).f0) ((rd_T29 l0_1 t171).f1) ((rd_T29 l0_1 t171).f2) ((rd_T29 l0_1 t171).f3) _ _ l1_0 a1_1 a1_2 a1_3 t183 t186 t187 t188 _ ?side1 ?side2 ?side3 ?side4 A43.out).mono ?_
       (case side1 => exact cA (Kd.C_below HR182_0.out HB.out))
       (case side2 => exact HC182_0.out)
       (case side3 => exact cA (Kd.C_below HR1_0.out HB.out))
       (case side4 => exact HC1_0.out)
       rintro e w64 ⟨v184, rfl, ho0, hb⟩
       refine ⟨_, rfl, ?_⟩
       replace HO169 := aM (Kd.S_elder' (sS HO169.out) (Kd.R_base ho0) hb)
       have HO185 := aM (Kd.R_lower ho0 (below_size (bw HB)))
       replace BK163 := bb BK163 hb
       replace BK164 := bb BK164 hb
       replace BK165 := bb BK165 hb
       replace BK170 := bb BK170 hb
       replace HB := aM (below_step (bw HB) hb)
       (try clear hb)
       (try clear hb2)
       (try clear hk)
       (try clear hi)
       (try clear ho0)
       refine hK.out _ _ ⟨(blk_cell BK163.out 0).trans rfl, (blk_cell BK163.out 1).trans rfl, (blk_cell BK164.out 0).trans rfl, (blk_cell BK164.out 1).trans rfl, (blk_cell BK164.out 2).trans rfl, (blk_cell BK164.out 3).trans rfl, (cB HB hw182_0), (cB HB hw182_1), (cB HB hw182_2), (cB HB hw182_3)⟩ (fun hHeld => ?_)
       clear hK K
       refine norm_ (a' := ?_) ?_ ?_
       rotate_left
       ·show Act.put _ (some 33) _ = _
        simp only [u6_]
        rfl
       refine one_ (i := 7) (N := some 9) (bz 9 255) rfl rfl (one_of HT_.out (by kernel_rfl)) (by decide) (fun K hK => ?_)
       refine box_step rfl (N := 9) rfl (cs := #[.slice none 0 0, .int .i64 0, .int .i64 0, .string (⟨#[]⟩ : ByteArray)]) (t := 29) gs ?_
       intro gb189 hg w65 hbox hb
       replace HO169 := aM (Kd.S_below (Kd.S_elderB (sS HO169.out) gb189 (Nat.le_of_eq hg.symm)) hb)
       replace HO185 := rb HO185 hb
       have BK189 := aM (hbox)
       have GW189 := gw hg (bw HB)
       have GE189 := gw hg (bw HB)
       replace HB := aM (below_step (bw HB) hb)
       have NB163_189 := nb1 hg BK163
       have NB189_163 := nb2 hg BK163
       replace BK163 := bb BK163 hb
       have NB164_189 := nb1 hg BK164
       have NB189_164 := nb2 hg BK164
       replace BK164 := bb BK164 hb
       have NB165_189 := nb1 hg BK165
       have NB189_165 := nb2 hg BK165
       replace BK165 := bb BK165 hb
       have NB170_189 := nb1 hg BK170
       have NB189_170 := nb2 hg BK170
       replace BK170 := bb BK170 hb
       clear hb hbox hg
       refine hK.out _ _ ⟨(blk_cell BK163.out 0).trans rfl, (blk_cell BK163.out 1).trans rfl, (blk_cell BK164.out 0).trans rfl, (blk_cell BK164.out 1).trans rfl, (blk_cell BK164.out 2).trans rfl, (blk_cell BK164.out 3).trans rfl, (cB HB hw182_0), (cB HB hw182_1), (cB HB hw182_2), (cB HB hw182_3)⟩ (fun hHeld => ?_)
       clear hK K
       refine norm_ (a' := ?_) ?_ ?_
       rotate_left
       ·show Act.put _ (some 9) _ = _
        simp only [u6_]
        rfl
       exact norm_ (by simp only [putAll, Act.put, List.setIfInBounds_toArray, List.set_cons_zero, List.set_cons_succ]) (hCont (v184, gb189) _ ⟨hHeld, (by (with_reducible repeat (first | apply Kd.S_alloc | apply Kd.S_drewN | apply Kd.S_drew)); exact Kd.S_mono HO169.out (fun _ hk => ⟨hk.1.2, ⟨hk.1.1.2, hk.2⟩⟩)), (aR HO185), (aB BK163), (aB BK164), (aB BK165), (aB BK170), (aB BK189), GW189.out, GE189.out, NB163_189.out, NB189_163.out, NB164_189.out, NB189_164.out, NB165_189.out, NB189_165.out, NB170_189.out, NB189_170.out, (bw HB)⟩)
      ·skip
       refine box_step rfl (N := 9) rfl (cs := #[.slice none 0 0, .int .i64 0, .int .i64 0, .string (⟨#[]⟩ : ByteArray)]) (t := 29) gs ?_
       intro gb189 hg w64 hbox hb
       replace HO169 := aM (Kd.S_below (Kd.S_elderB (sS HO169.out) gb189 (Nat.le_of_eq hg.symm)) hb)
       have BK189 := aM (hbox)
       have GW189 := gw hg (bw HB)
       have GE189 := gw hg (bw HB)
       replace HB := aM (below_step (bw HB) hb)
       have NB163_189 := nb1 hg BK163
       have NB189_163 := nb2 hg BK163
       replace BK163 := bb BK163 hb
       have NB164_189 := nb1 hg BK164
       have NB189_164 := nb2 hg BK164
       replace BK164 := bb BK164 hb
       have NB165_189 := nb1 hg BK165
       have NB189_165 := nb2 hg BK165
       replace BK165 := bb BK165 hb
       have NB170_189 := nb1 hg BK170
       have NB189_170 := nb2 hg BK170
       replace BK170 := bb BK170 hb
       clear hb hbox hg
       refine hK.out _ _ ⟨(blk_cell BK163.out 0).trans rfl, (blk_cell BK163.out 1).trans rfl, (blk_cell BK164.out 0).trans rfl, (blk_cell BK164.out 1).trans rfl, (blk_cell BK164.out 2).trans rfl, (blk_cell BK164.out 3).trans rfl, (cB HB hw182_0), (cB HB hw182_1), (cB HB hw182_2), (cB HB hw182_3)⟩ (fun hHeld => ?_)
       clear hK K
       refine norm_ (a' := ?_) ?_ ?_
       rotate_left
       ·show Act.put _ (some 9) _ = _
        simp only [u6_]
        rfl
       refine one_ (i := 6) (N := some 33) (bz 9 255) rfl rfl (one_of HT_.out (by kernel_rfl)) (by decide) (fun K hK => ?_)
       refine goes_ Try.func32 (by kernel_rfl) rfl #[.agg #[.slice A182_0 ((rd_T29 l0_1 t171).f0).length c182_0, .int .i64 ((rd_T29 l0_1 t171).f1), .int .i64 ((rd_T29 l0_1 t171).f2), .string ((rd_T29 l0_1 t171).f3)], .agg #[.slice A1_0 l1_0.length c1_0, .int .i64 a1_1, .int .i64 a1_2, .string a1_3]] (by rfl) rfl rfl mp ?_
       with_reducible refine (spec_Merge.calls _ _ ((rd_T29 l0_1 t171).f0) ((rd_T29 l0_1 t171).f1) ((rd_T29 l0_1 t171).f2) ((rd_T29 l0_1 t171).f3) _ _ l1_0 a1_1 a1_2 a1_3 t183 t186 t187 t188 _ ?side1 ?side2 ?side3 ?side4 A43.out).mono ?_
       (case side1 => exact cA (Kd.C_below HR182_0.out HB.out))
       (case side2 => exact HC182_0.out)
       (case side3 => exact cA (Kd.C_below HR1_0.out HB.out))
       (case side4 => exact HC1_0.out)
       rintro e w65 ⟨v184, rfl, ho0, hb⟩
       refine ⟨_, rfl, ?_⟩
       replace HO169 := aM (Kd.S_elder' (sS HO169.out) (Kd.R_base ho0) hb)
       have HO185 := aM (Kd.R_lower ho0 (below_size (bw HB)))
       replace BK163 := bb BK163 hb
       replace BK164 := bb BK164 hb
       replace BK165 := bb BK165 hb
       replace BK170 := bb BK170 hb
       replace BK189 := bb BK189 hb
       replace HB := aM (below_step (bw HB) hb)
       (try clear hb)
       (try clear hb2)
       (try clear hk)
       (try clear hi)
       (try clear ho0)
       refine hK.out _ _ ⟨(blk_cell BK163.out 0).trans rfl, (blk_cell BK163.out 1).trans rfl, (blk_cell BK164.out 0).trans rfl, (blk_cell BK164.out 1).trans rfl, (blk_cell BK164.out 2).trans rfl, (blk_cell BK164.out 3).trans rfl, (cB HB hw182_0), (cB HB hw182_1), (cB HB hw182_2), (cB HB hw182_3)⟩ (fun hHeld => ?_)
       clear hK K
       refine norm_ (a' := ?_) ?_ ?_
       rotate_left
       ·show Act.put _ (some 33) _ = _
        simp only [u6_]
        rfl
       exact norm_ (by simp only [putAll, Act.put, List.setIfInBounds_toArray, List.set_cons_zero, List.set_cons_succ]) (hCont (v184, gb189) _ ⟨hHeld, (by (with_reducible repeat (first | apply Kd.S_alloc | apply Kd.S_drewN | apply Kd.S_drew)); exact Kd.S_mono HO169.out (fun _ hk => ⟨hk.2, ⟨hk.1.1.2, hk.1.2⟩⟩)), (aR HO185), (aB BK163), (aB BK164), (aB BK165), (aB BK170), (aB BK189), GW189.out, GE189.out, NB163_189.out, NB189_163.out, NB164_189.out, NB189_164.out, NB165_189.out, NB189_165.out, NB170_189.out, NB189_170.out, (bw HB)⟩)
     rintro ⟨v184, gb189⟩ w66 ⟨hS_, h0_, h1_, h2_, h3_, h4_, h5_, h6_, h7_, h8_, h9_, h10_, h11_, h12_, h13_, h14_, h15_, h16_, h17_⟩
     have n0_ : Aside0 (Kd.S k29 29 w66 w.heap.size (fun k_ => some k_ ≠ (v184 : Value).ownBlock ∧ k_ ≠ gb164 ∧ k_ ≠ gb189) (.slice Ao58 t167.length co58) t167) := ⟨h0_⟩
     have n1_ : Aside0 (Kd.R k76 76 w66 w.heap.size (fun _ => True) v184 t183) := ⟨h1_⟩
     have n2_ : Aside0 (w66.heap[gb163]? = some (.cells #[.int .i64 a0_0, .slice (some ad182) l0_1.length c0_1] 26 (0, 0))) := ⟨h2_⟩
     have n3_ : Aside0 (w66.heap[gb164]? = some (.cells #[.slice A1_0 l1_0.length c1_0, .int .i64 a1_1, .int .i64 a1_2, .string a1_3] 29 (0, 0))) := ⟨h3_⟩
     have n4_ : Aside0 (w66.heap[gb165]? = some (.cells #[.int .i64 0, .slice none 0 0] 26 (0, 0))) := ⟨h4_⟩
     have n5_ : Aside0 (w66.heap[gb170]? = some (.cells #[.int .i64 t166, .slice Ao58 t167.length co58] 26 (0, 0))) := ⟨h5_⟩
     have n6_ : Aside0 (w66.heap[gb189]? = some (.cells #[.slice none 0 0, .int .i64 0, .int .i64 0, .string (⟨#[]⟩ : ByteArray)] 29 (0, 0))) := ⟨h6_⟩
     have n7_ : Aside0 (w.heap.size ≤ gb189) := ⟨h7_⟩
     have n8_ : Aside0 (w.heap.size ≤ gb189) := ⟨h8_⟩
     have n9_ : Aside0 (gb163 ≠ gb189) := ⟨h9_⟩
     have n10_ : Aside0 (gb189 ≠ gb163) := ⟨h10_⟩
     have n11_ : Aside0 (gb164 ≠ gb189) := ⟨h11_⟩
     have n12_ : Aside0 (gb189 ≠ gb164) := ⟨h12_⟩
     have n13_ : Aside0 (gb165 ≠ gb189) := ⟨h13_⟩
     have n14_ : Aside0 (gb189 ≠ gb165) := ⟨h14_⟩
     have n15_ : Aside0 (gb170 ≠ gb189) := ⟨h15_⟩
     have n16_ : Aside0 (gb189 ≠ gb170) := ⟨h16_⟩
     have n17_ : Aside0 (Below w.heap.size w w66) := ⟨h17_⟩
     clear HO169 BK163 BK164 BK165 BK170 HB h0_ h1_ h2_ h3_ h4_ h5_ h6_ h7_ h8_ h9_ h10_ h11_ h12_ h13_ h14_ h15_ h16_ h17_; have HO169 := n0_; have HO185 := n1_; have BK163 := n2_; have BK164 := n3_; have BK165 := n4_; have BK170 := n5_; have BK189 := n6_; have GW189 := n7_; have GE189 := n8_; have NB163_189 := n9_; have NB189_163 := n10_; have NB164_189 := n11_; have NB189_164 := n12_; have NB165_189 := n13_; have NB189_165 := n14_; have NB170_189 := n15_; have NB189_170 := n16_; have HB := n17_; clear n0_ n1_ n2_ n3_ n4_ n5_ n6_ n7_ n8_ n9_ n10_ n11_ n12_ n13_ n14_ n15_ n16_ n17_
     have hHeld : w66.cell? ⟨gb163, 0, none⟩ = some (.int .i64 a0_0) ∧ w66.cell? ⟨gb163, 1, none⟩ = some (.slice (some ad182) l0_1.length c0_1) ∧ w66.cell? ⟨gb164, 0, none⟩ = some (.slice A1_0 l1_0.length c1_0) ∧ w66.cell? ⟨gb164, 1, none⟩ = some (.int .i64 a1_1) ∧ w66.cell? ⟨gb164, 2, none⟩ = some (.int .i64 a1_2) ∧ w66.cell? ⟨gb164, 3, none⟩ = some (.string a1_3) ∧ w66.cell? (ad182.add ((t171).toNat * 4)) = some (.slice A182_0 ((rd_T29 l0_1 t171).f0).length c182_0) ∧ w66.cell? ⟨(ad182.add ((t171).toNat * 4)).block, (ad182.add ((t171).toNat * 4)).off + 1, none⟩ = some (.int .i64 ((rd_T29 l0_1 t171).f1)) ∧ w66.cell? ⟨(ad182.add ((t171).toNat * 4)).block, (ad182.add ((t171).toNat * 4)).off + 2, none⟩ = some (.int .i64 ((rd_T29 l0_1 t171).f2)) ∧ w66.cell? ⟨(ad182.add ((t171).toNat * 4)).block, (ad182.add ((t171).toNat * 4)).off + 3, none⟩ = some (.string ((rd_T29 l0_1 t171).f3)) := hS_
     obtain ⟨Ao67, co67, eo67⟩ := Kd.R_slice HO185.out
     (first | subst eo67 | (injection eo67 with f1_ f2_ f3_; have f4_ := f1_.symm; have f5_ := f3_.symm; clear f1_ f2_ f3_; subst f4_; subst f5_))
     refine norm_ (a' := ?_) ?_ ?_
     rotate_left
     ·simp only [putAll, Act.put, List.setIfInBounds_toArray, List.set_cons_zero, List.set_cons_succ]
      rfl
     refine one_ (i := 8) (N := none) (bz 9 511) rfl rfl (one_of HT_.out (by kernel_rfl)) (by decide) (fun K hK => ?_)
     have hs68 : w66.cell? ⟨gb189, 0, none⟩ = some (.slice none 0 0) := (blk_cell BK189.out 0).trans rfl
     have hfs68 := blk_frozen BK189.out 0
     have hns68_0 := NB163_189.out
     have hns68_1 := NB164_189.out
     have hns68_2 := NB165_189.out
     have hns68_3 := NB170_189.out
     have hms68_0 := NB189_163.out
     have hms68_1 := NB189_164.out
     have hms68_2 := NB189_165.out
     have hms68_3 := NB189_170.out
     have hs69 : w66.cell? ⟨gb189, 1, none⟩ = some (.int .i64 0) := (blk_cell BK189.out 1).trans rfl
     have hfs69 := blk_frozen BK189.out 1
     have hns69_0 := NB163_189.out
     have hns69_1 := NB164_189.out
     have hns69_2 := NB165_189.out
     have hns69_3 := NB170_189.out
     have hms69_0 := NB189_163.out
     have hms69_1 := NB189_164.out
     have hms69_2 := NB189_165.out
     have hms69_3 := NB189_170.out
     have hs70 : w66.cell? ⟨gb189, 2, none⟩ = some (.int .i64 0) := (blk_cell BK189.out 2).trans rfl
     have hfs70 := blk_frozen BK189.out 2
     have hns70_0 := NB163_189.out
     have hns70_1 := NB164_189.out
     have hns70_2 := NB165_189.out
     have hns70_3 := NB170_189.out
     have hms70_0 := NB189_163.out
     have hms70_1 := NB189_164.out
     have hms70_2 := NB189_165.out
     have hms70_3 := NB189_170.out
     have hs71 : w66.cell? ⟨gb189, 3, none⟩ = some (.string (⟨#[]⟩ : ByteArray)) := (blk_cell BK189.out 3).trans rfl
     have hfs71 := blk_frozen BK189.out 3
     have hns71_0 := NB163_189.out
     have hns71_1 := NB164_189.out
     have hns71_2 := NB165_189.out
     have hns71_3 := NB170_189.out
     have hms71_0 := NB189_163.out
     have hms71_1 := NB189_164.out
     have hms71_2 := NB189_165.out
     have hms71_3 := NB189_170.out
     refine skip_ (w1 := ?_) (by rfl) rfl ?_ ?_
     rotate_left
     ·go_simp
      rfl
     refine hK.out _ _ ⟨((cell_far (p := ⟨gb189, _, none⟩) NB163_189.out _).trans (((cell_far (p := ⟨gb189, _, none⟩) NB163_189.out _).trans (((cell_far (p := ⟨gb189, _, none⟩) NB163_189.out _).trans (((cell_far (p := ⟨gb189, _, none⟩) NB163_189.out _).trans (hHeld.1)))))))), ((cell_far (p := ⟨gb189, _, none⟩) NB163_189.out _).trans (((cell_far (p := ⟨gb189, _, none⟩) NB163_189.out _).trans (((cell_far (p := ⟨gb189, _, none⟩) NB163_189.out _).trans (((cell_far (p := ⟨gb189, _, none⟩) NB163_189.out _).trans (hHeld.2.1)))))))), ((cell_far (p := ⟨gb189, _, none⟩) NB164_189.out _).trans (((cell_far (p := ⟨gb189, _, none⟩) NB164_189.out _).trans (((cell_far (p := ⟨gb189, _, none⟩) NB164_189.out _).trans (((cell_far (p := ⟨gb189, _, none⟩) NB164_189.out _).trans (hHeld.2.2.1)))))))), ((cell_far (p := ⟨gb189, _, none⟩) NB164_189.out _).trans (((cell_far (p := ⟨gb189, _, none⟩) NB164_189.out _).trans (((cell_far (p := ⟨gb189, _, none⟩) NB164_189.out _).trans (((cell_far (p := ⟨gb189, _, none⟩) NB164_189.out _).trans (hHeld.2.2.2.1)))))))), ((cell_far (p := ⟨gb189, _, none⟩) NB164_189.out _).trans (((cell_far (p := ⟨gb189, _, none⟩) NB164_189.out _).trans (((cell_far (p := ⟨gb189, _, none⟩) NB164_189.out _).trans (((cell_far (p := ⟨gb189, _, none⟩) NB164_189.out _).trans (hHeld.2.2.2.2.1)))))))), ((cell_far (p := ⟨gb189, _, none⟩) NB164_189.out _).trans (((cell_far (p := ⟨gb189, _, none⟩) NB164_189.out _).trans (((cell_far (p := ⟨gb189, _, none⟩) NB164_189.out _).trans (((cell_far (p := ⟨gb189, _, none⟩) NB164_189.out _).trans (hHeld.2.2.2.2.2.1)))))))), ((cell_far (p := ⟨gb189, _, none⟩) (by first | exact Nat.ne_of_lt (Nat.lt_of_lt_of_le (by have := World.block_lt_of_cell? _ _ hw182_0; first | rwa [add_block] at this | exact this) GW189.out) | (rw [add_block]; exact Nat.ne_of_lt (Nat.lt_of_lt_of_le (by have := World.block_lt_of_cell? _ _ hw182_0; first | rwa [add_block] at this | exact this) GW189.out)) | (show (Addr.add _ _).block ≠ _; rw [add_block]; exact Nat.ne_of_lt (Nat.lt_of_lt_of_le (by have := World.block_lt_of_cell? _ _ hw182_0; first | rwa [add_block] at this | exact this) GW189.out)) | (dsimp only; exact Nat.ne_of_lt (Nat.lt_of_lt_of_le (by have := World.block_lt_of_cell? _ _ hw182_0; first | rwa [add_block] at this | exact this) GW189.out))) _).trans (((cell_far (p := ⟨gb189, _, none⟩) (by first | exact Nat.ne_of_lt (Nat.lt_of_lt_of_le (by have := World.block_lt_of_cell? _ _ hw182_0; first | rwa [add_block] at this | exact this) GW189.out) | (rw [add_block]; exact Nat.ne_of_lt (Nat.lt_of_lt_of_le (by have := World.block_lt_of_cell? _ _ hw182_0; first | rwa [add_block] at this | exact this) GW189.out)) | (show (Addr.add _ _).block ≠ _; rw [add_block]; exact Nat.ne_of_lt (Nat.lt_of_lt_of_le (by have := World.block_lt_of_cell? _ _ hw182_0; first | rwa [add_block] at this | exact this) GW189.out)) | (dsimp only; exact Nat.ne_of_lt (Nat.lt_of_lt_of_le (by have := World.block_lt_of_cell? _ _ hw182_0; first | rwa [add_block] at this | exact this) GW189.out))) _).trans (((cell_far (p := ⟨gb189, _, none⟩) (by first | exact Nat.ne_of_lt (Nat.lt_of_lt_of_le (by have := World.block_lt_of_cell? _ _ hw182_0; first | rwa [add_block] at this | exact this) GW189.out) | (rw [add_block]; exact Nat.ne_of_lt (Nat.lt_of_lt_of_le (by have := World.block_lt_of_cell? _ _ hw182_0; first | rwa [add_block] at this | exact this) GW189.out)) | (show (Addr.add _ _).block ≠ _; rw [add_block]; exact Nat.ne_of_lt (Nat.lt_of_lt_of_le (by have := World.block_lt_of_cell? _ _ hw182_0; first | rwa [add_block] at this | exact this) GW189.out)) | (dsimp only; exact Nat.ne_of_lt (Nat.lt_of_lt_of_le (by have := World.block_lt_of_cell? _ _ hw182_0; first | rwa [add_block] at this | exact this) GW189.out))) _).trans (((cell_far (p := ⟨gb189, _, none⟩) (by first | exact Nat.ne_of_lt (Nat.lt_of_lt_of_le (by have := World.block_lt_of_cell? _ _ hw182_0; first | rwa [add_block] at this | exact this) GW189.out) | (rw [add_block]; exact Nat.ne_of_lt (Nat.lt_of_lt_of_le (by have := World.block_lt_of_cell? _ _ hw182_0; first | rwa [add_block] at this | exact this) GW189.out)) | (show (Addr.add _ _).block ≠ _; rw [add_block]; exact Nat.ne_of_lt (Nat.lt_of_lt_of_le (by have := World.block_lt_of_cell? _ _ hw182_0; first | rwa [add_block] at this | exact this) GW189.out)) | (dsimp only; exact Nat.ne_of_lt (Nat.lt_of_lt_of_le (by have := World.block_lt_of_cell? _ _ hw182_0; first | rwa [add_block] at this | exact this) GW189.out))) _).trans (hHeld.2.2.2.2.2.2.1)))))))), ((cell_far (p := ⟨gb189, _, none⟩) (by first | exact Nat.ne_of_lt (Nat.lt_of_lt_of_le (by have := World.block_lt_of_cell? _ _ hw182_1; first | rwa [add_block] at this | exact this) GW189.out) | (rw [add_block]; exact Nat.ne_of_lt (Nat.lt_of_lt_of_le (by have := World.block_lt_of_cell? _ _ hw182_1; first | rwa [add_block] at this | exact this) GW189.out)) | (show (Addr.add _ _).block ≠ _; rw [add_block]; exact Nat.ne_of_lt (Nat.lt_of_lt_of_le (by have := World.block_lt_of_cell? _ _ hw182_1; first | rwa [add_block] at this | exact this) GW189.out)) | (dsimp only; exact Nat.ne_of_lt (Nat.lt_of_lt_of_le (by have := World.block_lt_of_cell? _ _ hw182_1; first | rwa [add_block] at this | exact this) GW189.out))) _).trans (((cell_far (p := ⟨gb189, _, none⟩) (by first | exact Nat.ne_of_lt (Nat.lt_of_lt_of_le (by have := World.block_lt_of_cell? _ _ hw182_1; first | rwa [add_block] at this | exact this) GW189.out) | (rw [add_block]; exact Nat.ne_of_lt (Nat.lt_of_lt_of_le (by have := World.block_lt_of_cell? _ _ hw182_1; first | rwa [add_block] at this | exact this) GW189.out)) | (show (Addr.add _ _).block ≠ _; rw [add_block]; exact Nat.ne_of_lt (Nat.lt_of_lt_of_le (by have := World.block_lt_of_cell? _ _ hw182_1; first | rwa [add_block] at this | exact this) GW189.out)) | (dsimp only; exact Nat.ne_of_lt (Nat.lt_of_lt_of_le (by have := World.block_lt_of_cell? _ _ hw182_1; first | rwa [add_block] at this | exact this) GW189.out))) _).trans (((cell_far (p := ⟨gb189, _, none⟩) (by first | exact Nat.ne_of_lt (Nat.lt_of_lt_of_le (by have := World.block_lt_of_cell? _ _ hw182_1; first | rwa [add_block] at this | exact this) GW189.out) | (rw [add_block]; exact Nat.ne_of_lt (Nat.lt_of_lt_of_le (by have := World.block_lt_of_cell? _ _ hw182_1; first | rwa [add_block] at this | exact this) GW189.out)) | (show (Addr.add _ _).block ≠ _; rw [add_block]; exact Nat.ne_of_lt (Nat.lt_of_lt_of_le (by have := World.block_lt_of_cell? _ _ hw182_1; first | rwa [add_block] at this | exact this) GW189.out)) | (dsimp only; exact Nat.ne_of_lt (Nat.lt_of_lt_of_le (by have := World.block_lt_of_cell? _ _ hw182_1; first | rwa [add_block] at this | exact this) GW189.out))) _).trans (((cell_far (p := ⟨gb189, _, none⟩) (by first | exact Nat.ne_of_lt (Nat.lt_of_lt_of_le (by have := World.block_lt_of_cell? _ _ hw182_1; first | rwa [add_block] at this | exact this) GW189.out) | (rw [add_block]; exact Nat.ne_of_lt (Nat.lt_of_lt_of_le (by have := World.block_lt_of_cell? _ _ hw182_1; first | rwa [add_block] at this | exact this) GW189.out)) | (show (Addr.add _ _).block ≠ _; rw [add_block]; exact Nat.ne_of_lt (Nat.lt_of_lt_of_le (by have := World.block_lt_of_cell? _ _ hw182_1; first | rwa [add_block] at this | exact this) GW189.out)) | (dsimp only; exact Nat.ne_of_lt (Nat.lt_of_lt_of_le (by have := World.block_lt_of_cell? _ _ hw182_1; first | rwa [add_block] at this | exact this) GW189.out))) _).trans (hHeld.2.2.2.2.2.2.2.1)))))))), ((cell_far (p := ⟨gb189, _, none⟩) (by first | exact Nat.ne_of_lt (Nat.lt_of_lt_of_le (by have := World.block_lt_of_cell? _ _ hw182_2; first | rwa [add_block] at this | exact this) GW189.out) | (rw [add_block]; exact Nat.ne_of_lt (Nat.lt_of_lt_of_le (by have := World.block_lt_of_cell? _ _ hw182_2; first | rwa [add_block] at this | exact this) GW189.out)) | (show (Addr.add _ _).block ≠ _; rw [add_block]; exact Nat.ne_of_lt (Nat.lt_of_lt_of_le (by have := World.block_lt_of_cell? _ _ hw182_2; first | rwa [add_block] at this | exact this) GW189.out)) | (dsimp only; exact Nat.ne_of_lt (Nat.lt_of_lt_of_le (by have := World.block_lt_of_cell? _ _ hw182_2; first | rwa [add_block] at this | exact this) GW189.out))) _).trans (((cell_far (p := ⟨gb189, _, none⟩) (by first | exact Nat.ne_of_lt (Nat.lt_of_lt_of_le (by have := World.block_lt_of_cell? _ _ hw182_2; first | rwa [add_block] at this | exact this) GW189.out) | (rw [add_block]; exact Nat.ne_of_lt (Nat.lt_of_lt_of_le (by have := World.block_lt_of_cell? _ _ hw182_2; first | rwa [add_block] at this | exact this) GW189.out)) | (show (Addr.add _ _).block ≠ _; rw [add_block]; exact Nat.ne_of_lt (Nat.lt_of_lt_of_le (by have := World.block_lt_of_cell? _ _ hw182_2; first | rwa [add_block] at this | exact this) GW189.out)) | (dsimp only; exact Nat.ne_of_lt (Nat.lt_of_lt_of_le (by have := World.block_lt_of_cell? _ _ hw182_2; first | rwa [add_block] at this | exact this) GW189.out))) _).trans (((cell_far (p := ⟨gb189, _, none⟩) (by first | exact Nat.ne_of_lt (Nat.lt_of_lt_of_le (by have := World.block_lt_of_cell? _ _ hw182_2; first | rwa [add_block] at this | exact this) GW189.out) | (rw [add_block]; exact Nat.ne_of_lt (Nat.lt_of_lt_of_le (by have := World.block_lt_of_cell? _ _ hw182_2; first | rwa [add_block] at this | exact this) GW189.out)) | (show (Addr.add _ _).block ≠ _; rw [add_block]; exact Nat.ne_of_lt (Nat.lt_of_lt_of_le (by have := World.block_lt_of_cell? _ _ hw182_2; first | rwa [add_block] at this | exact this) GW189.out)) | (dsimp only; exact Nat.ne_of_lt (Nat.lt_of_lt_of_le (by have := World.block_lt_of_cell? _ _ hw182_2; first | rwa [add_block] at this | exact this) GW189.out))) _).trans (((cell_far (p := ⟨gb189, _, none⟩) (by first | exact Nat.ne_of_lt (Nat.lt_of_lt_of_le (by have := World.block_lt_of_cell? _ _ hw182_2; first | rwa [add_block] at this | exact this) GW189.out) | (rw [add_block]; exact Nat.ne_of_lt (Nat.lt_of_lt_of_le (by have := World.block_lt_of_cell? _ _ hw182_2; first | rwa [add_block] at this | exact this) GW189.out)) | (show (Addr.add _ _).block ≠ _; rw [add_block]; exact Nat.ne_of_lt (Nat.lt_of_lt_of_le (by have := World.block_lt_of_cell? _ _ hw182_2; first | rwa [add_block] at this | exact this) GW189.out)) | (dsimp only; exact Nat.ne_of_lt (Nat.lt_of_lt_of_le (by have := World.block_lt_of_cell? _ _ hw182_2; first | rwa [add_block] at this | exact this) GW189.out))) _).trans (hHeld.2.2.2.2.2.2.2.2.1)))))))), ((cell_far (p := ⟨gb189, _, none⟩) (by first | exact Nat.ne_of_lt (Nat.lt_of_lt_of_le (by have := World.block_lt_of_cell? _ _ hw182_3; first | rwa [add_block] at this | exact this) GW189.out) | (rw [add_block]; exact Nat.ne_of_lt (Nat.lt_of_lt_of_le (by have := World.block_lt_of_cell? _ _ hw182_3; first | rwa [add_block] at this | exact this) GW189.out)) | (show (Addr.add _ _).block ≠ _; rw [add_block]; exact Nat.ne_of_lt (Nat.lt_of_lt_of_le (by have := World.block_lt_of_cell? _ _ hw182_3; first | rwa [add_block] at this | exact this) GW189.out)) | (dsimp only; exact Nat.ne_of_lt (Nat.lt_of_lt_of_le (by have := World.block_lt_of_cell? _ _ hw182_3; first | rwa [add_block] at this | exact this) GW189.out))) _).trans (((cell_far (p := ⟨gb189, _, none⟩) (by first | exact Nat.ne_of_lt (Nat.lt_of_lt_of_le (by have := World.block_lt_of_cell? _ _ hw182_3; first | rwa [add_block] at this | exact this) GW189.out) | (rw [add_block]; exact Nat.ne_of_lt (Nat.lt_of_lt_of_le (by have := World.block_lt_of_cell? _ _ hw182_3; first | rwa [add_block] at this | exact this) GW189.out)) | (show (Addr.add _ _).block ≠ _; rw [add_block]; exact Nat.ne_of_lt (Nat.lt_of_lt_of_le (by have := World.block_lt_of_cell? _ _ hw182_3; first | rwa [add_block] at this | exact this) GW189.out)) | (dsimp only; exact Nat.ne_of_lt (Nat.lt_of_lt_of_le (by have := World.block_lt_of_cell? _ _ hw182_3; first | rwa [add_block] at this | exact this) GW189.out))) _).trans (((cell_far (p := ⟨gb189, _, none⟩) (by first | exact Nat.ne_of_lt (Nat.lt_of_lt_of_le (by have := World.block_lt_of_cell? _ _ hw182_3; first | rwa [add_block] at this | exact this) GW189.out) | (rw [add_block]; exact Nat.ne_of_lt (Nat.lt_of_lt_of_le (by have := World.block_lt_of_cell? _ _ hw182_3; first | rwa [add_block] at this | exact this) GW189.out)) | (show (Addr.add _ _).block ≠ _; rw [add_block]; exact Nat.ne_of_lt (Nat.lt_of_lt_of_le (by have := World.block_lt_of_cell? _ _ hw182_3; first | rwa [add_block] at this | exact this) GW189.out)) | (dsimp only; exact Nat.ne_of_lt (Nat.lt_of_lt_of_le (by have := World.block_lt_of_cell? _ _ hw182_3; first | rwa [add_block] at this | exact this) GW189.out))) _).trans (((cell_far (p := ⟨gb189, _, none⟩) (by first | exact Nat.ne_of_lt (Nat.lt_of_lt_of_le (by have := World.block_lt_of_cell? _ _ hw182_3; first | rwa [add_block] at this | exact this) GW189.out) | (rw [add_block]; exact Nat.ne_of_lt (Nat.lt_of_lt_of_le (by have := World.block_lt_of_cell? _ _ hw182_3; first | rwa [add_block] at this | exact this) GW189.out)) | (show (Addr.add _ _).block ≠ _; rw [add_block]; exact Nat.ne_of_lt (Nat.lt_of_lt_of_le (by have := World.block_lt_of_cell? _ _ hw182_3; first | rwa [add_block] at this | exact this) GW189.out)) | (dsimp only; exact Nat.ne_of_lt (Nat.lt_of_lt_of_le (by have := World.block_lt_of_cell? _ _ hw182_3; first | rwa [add_block] at this | exact this) GW189.out))) _).trans (hHeld.2.2.2.2.2.2.2.2.2))))))))⟩ (fun hHeld => ?_)
     clear hK K
     refine done_ (done_of HT_.out (by kernel_rfl)) ?_
     have n0_ : Aside0 (Kd.S k29 29 ((((w66.setCell ⟨gb189, 0, none⟩ (.slice Ao67 t183.length co67)).setCell ⟨gb189, 1, none⟩ (.int .i64 t186)).setCell ⟨gb189, 2, none⟩ (.int .i64 t187)).setCell ⟨gb189, 3, none⟩ (.string t188)) w.heap.size (fun k_ => some k_ ≠ (.slice Ao67 t183.length co67 : Value).ownBlock ∧ k_ ≠ gb164 ∧ k_ ≠ gb189) (.slice Ao58 t167.length co58) t167) := ⟨by (with_reducible repeat (first | apply Kd.S_alloc | apply Kd.S_drewN | apply Kd.S_drew)); exact Kd.S_mono (Kd.S_far (p := ⟨gb189, 3, none⟩) (Kd.S_far (p := ⟨gb189, 2, none⟩) (Kd.S_far (p := ⟨gb189, 1, none⟩) (Kd.S_far (p := ⟨gb189, 0, none⟩) (Kd.S_mono HO169.out (fun k_ hk => (⟨hk, hk.2.2⟩ : _ ∧ k_ ≠ gb189))) (fun _ hk => hk.2) (.slice Ao67 t183.length co67)) (fun _ hk => hk.2) (.int .i64 t186)) (fun _ hk => hk.2) (.int .i64 t187)) (fun _ hk => hk.2) (.string t188)) (fun _ hk => ⟨hk.1.1, ⟨hk.1.2.1, hk.1.2.2⟩⟩)⟩
     have n1_ : Aside0 (Kd.R k76 76 ((((w66.setCell ⟨gb189, 0, none⟩ (.slice Ao67 t183.length co67)).setCell ⟨gb189, 1, none⟩ (.int .i64 t186)).setCell ⟨gb189, 2, none⟩ (.int .i64 t187)).setCell ⟨gb189, 3, none⟩ (.string t188)) w.heap.size (fun _ => True) (.slice Ao67 t183.length co67) t183) := ⟨by (with_reducible repeat (first | apply aR1 | apply aR2 | apply aR3)); exact Kd.R_mono (Kd.R_far (p := ⟨gb189, 3, none⟩) (Kd.R_far (p := ⟨gb189, 2, none⟩) (Kd.R_far (p := ⟨gb189, 1, none⟩) (Kd.R_far (p := ⟨gb189, 0, none⟩) (Kd.R_types HO185.out BK189.out (by decide)) (fun _ hk => hk.2) (.slice Ao67 t183.length co67)) (fun _ hk => hk.2) (.int .i64 t186)) (fun _ hk => hk.2) (.int .i64 t187)) (fun _ hk => hk.2) (.string t188)) (fun _ hk => trivial)⟩
     have n2_ : Aside0 (((((w66.setCell ⟨gb189, 0, none⟩ (.slice Ao67 t183.length co67)).setCell ⟨gb189, 1, none⟩ (.int .i64 t186)).setCell ⟨gb189, 2, none⟩ (.int .i64 t187)).setCell ⟨gb189, 3, none⟩ (.string t188)).heap[gb163]? = some (.cells #[.int .i64 a0_0, .slice (some ad182) l0_1.length c0_1] 26 (0, 0))) := ⟨by refine blk_far ?_ NB163_189.out _; refine blk_far ?_ NB163_189.out _; refine blk_far ?_ NB163_189.out _; refine blk_far ?_ NB163_189.out _; exact aB BK163⟩
     have n3_ : Aside0 (((((w66.setCell ⟨gb189, 0, none⟩ (.slice Ao67 t183.length co67)).setCell ⟨gb189, 1, none⟩ (.int .i64 t186)).setCell ⟨gb189, 2, none⟩ (.int .i64 t187)).setCell ⟨gb189, 3, none⟩ (.string t188)).heap[gb164]? = some (.cells #[.slice A1_0 l1_0.length c1_0, .int .i64 a1_1, .int .i64 a1_2, .string a1_3] 29 (0, 0))) := ⟨by refine blk_far ?_ NB164_189.out _; refine blk_far ?_ NB164_189.out _; refine blk_far ?_ NB164_189.out _; refine blk_far ?_ NB164_189.out _; exact aB BK164⟩
     have n4_ : Aside0 (((((w66.setCell ⟨gb189, 0, none⟩ (.slice Ao67 t183.length co67)).setCell ⟨gb189, 1, none⟩ (.int .i64 t186)).setCell ⟨gb189, 2, none⟩ (.int .i64 t187)).setCell ⟨gb189, 3, none⟩ (.string t188)).heap[gb165]? = some (.cells #[.int .i64 0, .slice none 0 0] 26 (0, 0))) := ⟨by refine blk_far ?_ NB165_189.out _; refine blk_far ?_ NB165_189.out _; refine blk_far ?_ NB165_189.out _; refine blk_far ?_ NB165_189.out _; exact aB BK165⟩
     have n5_ : Aside0 (((((w66.setCell ⟨gb189, 0, none⟩ (.slice Ao67 t183.length co67)).setCell ⟨gb189, 1, none⟩ (.int .i64 t186)).setCell ⟨gb189, 2, none⟩ (.int .i64 t187)).setCell ⟨gb189, 3, none⟩ (.string t188)).heap[gb170]? = some (.cells #[.int .i64 t166, .slice Ao58 t167.length co58] 26 (0, 0))) := ⟨by refine blk_far ?_ NB170_189.out _; refine blk_far ?_ NB170_189.out _; refine blk_far ?_ NB170_189.out _; refine blk_far ?_ NB170_189.out _; exact aB BK170⟩
     have n6_ : Aside0 (((((w66.setCell ⟨gb189, 0, none⟩ (.slice Ao67 t183.length co67)).setCell ⟨gb189, 1, none⟩ (.int .i64 t186)).setCell ⟨gb189, 2, none⟩ (.int .i64 t187)).setCell ⟨gb189, 3, none⟩ (.string t188)).heap[gb189]? = some (.cells #[.slice Ao67 t183.length co67, .int .i64 t186, .int .i64 t187, .string t188] 29 (0, 0))) := ⟨by refine blk_put (cs := #[.slice Ao67 t183.length co67, .int .i64 t186, .int .i64 t187, .string (⟨#[]⟩ : ByteArray)]) ?_ 3 _ rfl; refine blk_put (cs := #[.slice Ao67 t183.length co67, .int .i64 t186, .int .i64 0, .string (⟨#[]⟩ : ByteArray)]) ?_ 2 _ rfl; refine blk_put (cs := #[.slice Ao67 t183.length co67, .int .i64 0, .int .i64 0, .string (⟨#[]⟩ : ByteArray)]) ?_ 1 _ rfl; refine blk_put (cs := #[.slice none 0 0, .int .i64 0, .int .i64 0, .string (⟨#[]⟩ : ByteArray)]) ?_ 0 _ rfl; exact aB BK189⟩
     have n7_ : Aside0 (Below w.heap.size w ((((w66.setCell ⟨gb189, 0, none⟩ (.slice Ao67 t183.length co67)).setCell ⟨gb189, 1, none⟩ (.int .i64 t186)).setCell ⟨gb189, 2, none⟩ (.int .i64 t187)).setCell ⟨gb189, 3, none⟩ (.string t188))) := ⟨(bw HB)⟩
     (try clear HO169)
     (try clear HO185)
     (try clear BK163)
     (try clear BK164)
     (try clear BK165)
     (try clear BK170)
     (try clear BK189)
     (try clear HB)
     generalize ((((w66.setCell ⟨gb189, 0, none⟩ (.slice Ao67 t183.length co67)).setCell ⟨gb189, 1, none⟩ (.int .i64 t186)).setCell ⟨gb189, 2, none⟩ (.int .i64 t187)).setCell ⟨gb189, 3, none⟩ (.string t188)) = w72 at n0_ n1_ n2_ n3_ n4_ n5_ n6_ n7_ ⊢
     have HO169 := n0_; have HO185 := n1_; have BK163 := n2_; have BK164 := n3_; have BK165 := n4_; have BK170 := n5_; have BK189 := n6_; have HB := n7_; clear n0_ n1_ n2_ n3_ n4_ n5_ n6_ n7_; have hnb73 := NB170_189.out; have hnc73 := NB189_170.out; obtain ⟨hcz74_0, hcz74_1⟩ := zc2 BK170; have hfz74_0 := zf BK170; have hnb75 := NB189_163.out; have hnc75 := NB163_189.out; have hnb76 := NB189_164.out; have hnc76 := NB164_189.out; have hnb77 := NB189_165.out; have hnc77 := NB165_189.out
     have hcz78_0 : w72.cell? ⟨gb189, 0, none⟩ = some (.slice Ao67 t183.length co67) := (blk_cell BK189.out 0).trans rfl
     have hcz78_1 : w72.cell? ⟨gb189, 1, none⟩ = some (.int .i64 t186) := (blk_cell BK189.out 1).trans rfl
     have hcz78_2 : w72.cell? ⟨gb189, 2, none⟩ = some (.int .i64 t187) := (blk_cell BK189.out 2).trans rfl
     have hcz78_3 : w72.cell? ⟨gb189, 3, none⟩ = some (.string t188) := (blk_cell BK189.out 3).trans rfl
     have hfz78_0 := zf BK189
     have p45 : 0 ≤ (t171 : Int) := of_decide_eq_true as_
     have q45 : (t171 : Int) < ((t167.length : Int) : Int) := of_decide_eq_true as_
     obtain ⟨go45, co45, eo45, gb45, gl45, cl45, HG45⟩ := Kd.S_form HO169.out (by omega)
     (first | cases eo45 | (injection eo45 with ea_ en_ ec_; (first | subst ea_ | (injection ea_ with ea_; subst ea_)); subst ec_; clear en_))
     have GB45 := aM gb45
     have GG45 := aM HG45
     clear gb45 gl45 HG45
     obtain ⟨_, ce45, hcl45, hM45, hcc45, hfr45, _, _⟩ := Kd.S_elem HO169.out z29 (t171 : Int) p45 q45
     obtain ⟨ve45_0, rfl, ge45_0⟩ := k29_openM hM45
     have hx45_0 : w72.cell? ⟨go45, (t171 : Int).toNat * 4, none⟩ = some (ve45_0) := hcc45 0 _ rfl
     have hx45_1 : w72.cell? ⟨go45, (t171 : Int).toNat * 4 + 1, none⟩ = some (.int .i64 ((rd_T29 t167 t171).f1)) := hcc45 1 _ rfl
     have hx45_2 : w72.cell? ⟨go45, (t171 : Int).toNat * 4 + 2, none⟩ = some (.int .i64 ((rd_T29 t167 t171).f2)) := hcc45 2 _ rfl
     have hx45_3 : w72.cell? ⟨go45, (t171 : Int).toNat * 4 + 3, none⟩ = some (.string ((rd_T29 t167 t171).f3)) := hcc45 3 _ rfl
     have hf45_0 : w72.frozen? ⟨go45, (t171 : Int).toNat * 4, none⟩ = false := hfr45 0
     have hf45_1 : w72.frozen? ⟨go45, (t171 : Int).toNat * 4 + 1, none⟩ = false := hfr45 1
     have hf45_2 : w72.frozen? ⟨go45, (t171 : Int).toNat * 4 + 2, none⟩ = false := hfr45 2
     have hf45_3 : w72.frozen? ⟨go45, (t171 : Int).toNat * 4 + 3, none⟩ = false := hfr45 3
     clear hcl45 hcc45 hfr45 hM45
     replace p45 := eq_true p45
     replace q45 := eq_true q45
     have HX79 := aM (show Kd.S k29 29 w72 w.heap.size (fun k_ => ((fun k_ => k_ ≠ gb164 ∧ k_ ≠ gb189)) k_ ∧ ¬ ((fun k_ => some k_ = (.slice Ao67 t183.length co67 : Value).ownBlock)) k_) (.slice (some ⟨go45, 0, none⟩) t167.length co58) t167 from (by (with_reducible repeat (first | apply Kd.S_alloc | apply Kd.S_drewN | apply Kd.S_drew)); exact Kd.S_mono HO169.out (fun k_ hk => ⟨⟨hk.2.1, hk.2.2⟩, fun e_ => hk.1 e_⟩)))
     obtain ⟨oki79, ce79, hcl79, hM79, hcc79, hfr79, hoki79, hH79⟩ := Kd.S_elem HX79.out z29 (t171 : Int) (of_decide_eq_true as_) (by have h_ : (t171 : Int) < ((t167.length : Int) : Int) := of_decide_eq_true as_; first | exact h_ | (have e_ := (Kd.S_reads' HO169.out).1; omega) | simpa using h_)
     obtain ⟨ve79_0, rfl, ge79_0⟩ := k29_openM hM79
     have HP79 := Kd.S_seg hH79 (of_decide_eq_true as_) (by have h_ : (t171 : Int) < ((t167.length : Int) : Int) := of_decide_eq_true as_; first | exact h_ | (have e_ := (Kd.S_reads' HO169.out).1; omega) | simpa using h_) (seg := [.slice Ao67 t183.length co67, .int .i64 t186, .int .i64 t187, .string t188]) (j := 0) (show 4 ≤ 4 from by decide) (x' := (⟨t183, t186, t187, t188⟩ : S29)) (k29_mkM _ _ _ (⟨t183, t186, t187, t188⟩ : S29) (Kd.R_mono (Kd.R_tight rfl (Kd.R_mono (ok' := fun k_ => ((fun k_ => k_ ≠ gb164 ∧ k_ ≠ gb189)) k_ ∧ k_ ≠ go45) (Kd.R_types (Kd.R_types (Kd.R_apart' (HO185.out) (Kd.S_typed HO169.out) (by decide)) BK164.out (by decide)) BK189.out (by decide)) (fun k_ hk => ⟨⟨hk.1.2, hk.2⟩, fun e_ => (hk.1.1.2) (by rw [e_]; rfl)⟩))) (fun _ h_ => Or.inr (h_)))) (fun _ hk => hk) (fun k_ hk_ => ((Kd.R_mono (ok' := fun k_ => ((fun k_ => k_ ≠ gb164 ∧ k_ ≠ gb189)) k_ ∧ k_ ≠ go45) (Kd.R_types (Kd.R_types (Kd.R_apart' (HO185.out) (Kd.S_typed HO169.out) (by decide)) BK164.out (by decide)) BK189.out (by decide)) (fun k_ hk => ⟨⟨hk.1.2, hk.2⟩, fun e_ => (hk.1.1.2) (by rw [e_]; rfl)⟩))).1 k_ hk_.symm)
     have hx79_0 := hcc79 0 _ rfl
     (try simp only [show (k29).sz = 4 from rfl, Nat.mul_one, Nat.add_zero] at hx79_0)
     have hf79_0 := hfr79 0
     (try simp only [show (k29).sz = 4 from rfl, Nat.mul_one, Nat.add_zero] at hf79_0)
     have hx79_1 := hcc79 1 _ rfl
     (try simp only [show (k29).sz = 4 from rfl, Nat.mul_one, Nat.add_zero] at hx79_1)
     have hf79_1 := hfr79 1
     (try simp only [show (k29).sz = 4 from rfl, Nat.mul_one, Nat.add_zero] at hf79_1)
     have hx79_2 := hcc79 2 _ rfl
     (try simp only [show (k29).sz = 4 from rfl, Nat.mul_one, Nat.add_zero] at hx79_2)
     have hf79_2 := hfr79 2
     (try simp only [show (k29).sz = 4 from rfl, Nat.mul_one, Nat.add_zero] at hf79_2)
     have hx79_3 := hcc79 3 _ rfl
     (try simp only [show (k29).sz = 4 from rfl, Nat.mul_one, Nat.add_zero] at hx79_3)
     have hf79_3 := hfr79 3
     (try simp only [show (k29).sz = 4 from rfl, Nat.mul_one, Nat.add_zero] at hf79_3)
     clear hcl79 hcc79 hfr79 hM79 hoki79 hH79
     try go_wp2_with (first | ((with_reducible refine gate_store (t := 29) (p := 38) rfl ?_); refine store_event (t := 29) (p := 38) (v := ?vo_w80) (w1 := ((((w72.setCell ⟨go45, (t171 : Int).toNat * 4, none⟩ (.slice Ao67 t183.length co67)).setCell ⟨go45, (t171 : Int).toNat * 4 + 1, none⟩ (.int .i64 t186)).setCell ⟨go45, (t171 : Int).toNat * 4 + 2, none⟩ (.int .i64 t187)).setCell ⟨go45, (t171 : Int).toNat * 4 + 3, none⟩ (.string t188))) ?hg ?ho ?hn ?hr ?_; (case ho => rfl); (case hg => rfl); (case hn => rfl); (case hr => first | (go_simp; done) | (go_simp; rfl)); intro w80 hw; have hg : w72.grownBy w80 (some go45) := (by rw [hw]; exact HP79.2); have hp_ : Kd.S k29 29 w80 w.heap.size (fun k_ => k_ ≠ gb164 ∧ k_ ≠ gb189) (.slice (some ⟨go45, 0, none⟩) t167.length co58) y190 := (by rw [hw, Ny190.out]; exact HP79.1); clear HP79; replace BK163 := aM (blk_grown (g := gb163) (aB BK163) hg (Kd.S_ne HO169.out BK163.out (by decide))); replace BK164 := aM (blk_grown (g := gb164) (aB BK164) hg (Kd.S_away HO169.out (fun _ hk => hk.2.1))); replace BK165 := aM (blk_grown (g := gb165) (aB BK165) hg (Kd.S_ne HO169.out BK165.out (by decide))); replace BK170 := aM (blk_grown (g := gb170) (aB BK170) hg (Kd.S_ne HO169.out BK170.out (by decide))); replace BK189 := aM (blk_grown (g := gb189) (aB BK189) hg (Kd.S_away HO169.out (fun _ hk => hk.2.2))); replace HO169 := aM (hp_); replace HB := aM ((by rw [hw]; exact below_set (below_set (below_set (below_set (HB.out) GB45.out) GB45.out) GB45.out) GB45.out : Below w.heap.size w w80)); clear HO185 hg hw hp_; obtain ⟨hcz81_0, hcz81_1⟩ := zc2 BK170; have hfz81_0 := zf BK170; obtain ⟨hcz82_0, hcz82_1⟩ := zc2 BK165; have hfz82_0 := zf BK165))
     refine bodyPost_ret (results_ct rfl _ _ gb165 26 #[.int .i64 t166, .slice (some ⟨go45, 0, none⟩) t167.length co58] (0, 0) _ rfl (by refine blk_put (cs := #[.int .i64 t166, .slice none 0 0]) ?_ 1 _ rfl; refine blk_put (cs := #[.int .i64 0, .slice none 0 0]) ?_ 0 _ rfl; exact aB BK165) Try.underlying26 rfl (by kernel_rfl)) rfl ?_
     exact ⟨_, er, by (with_reducible repeat (first | apply Kd.S_alloc | apply Kd.S_drewN | apply Kd.S_drew)); exact Kd.S_mono (Kd.S_far (p := ⟨gb165, 1, none⟩) (Kd.S_far (p := ⟨gb165, 0, none⟩) (Kd.S_types HO169.out BK165.out (by decide)) (fun _ hk => hk.2) (.int .i64 t166)) (fun _ hk => hk.2) (.slice (some ⟨go45, 0, none⟩) t167.length co58)) (fun _ hk => trivial), (bw HB)⟩
    ·rw [if_neg c44] at H
     exact absurd H (by simp)
   ·rw [if_neg c42] at H
    exact absurd H (by simp)
  ·rw [if_neg c41] at H
   exact absurd H (by simp)

/-! ### spec_l1Int: function 33 -/
def spec_l1Int.f (s0_0 : List Int) (s0_1 : Int) (s0_2 : Int) (l1 : List Int) : Option (Int × Int × Int) := (spec_l1Below.f s0_0 s0_1 s0_2 (l1.length : Int)).bind fun bt191 => (if 0 ≤ bt191.1 then (if bt191.1 < (l1.length : Int) then (some (rd l1 bt191.1, bt191.2.1, bt191.2.2)) else (none)) else (none))
theorem spec_l1Int.calls (g : Nat) (s0_0 : List Int) (s0_1 : Int) (s0_2 : Int) (A1 : Option Addr) (c1 : Nat) (l1 : List Int) (r1 : Int) (r2 : Int) (r3 : Int) (w0 w : World) (hI : IsS67 w0 w g s0_0 s0_1 s0_2) (hB : Below w0.heap.size w0 w) (hr1 : Kd.C (Kd.int .i64) w A1 l1.length l1) (hc1 : l1.length ≤ c1) (hf1 : ∀ ad, A1 = some ad → 0 < l1.length → ad.block ≠ g) (h : spec_l1Int.f s0_0 s0_1 s0_2 l1 = some (r1, r2, r3)) :
  Calls Try.prog 33 #[.pointer (some ⟨g, 0, none⟩), .slice A1 l1.length c1] w fun e w' => e = .returned (.int .i64 r1) ∧ IsS67 w0 w' g s0_0 r2 r3 ∧ Below w0.heap.size w0 w' ∧ KeepBut w w' g none := by
 have HR1 := aM hr1
 have HC1 := aM hc1
 clear hr1 hc1
 have HI0 := aM hI
 have HK := aM (KeepBut.refl w g none)
 have HL := aM hB.size
 clear hI
 have HW0 := aM hB.size
 have HB := aM hB
 clear hB
 have H : ((spec_l1Below.f s0_0 s0_1 s0_2 (l1.length : Int)).bind fun bt191 => (if 0 ≤ bt191.1 then (if bt191.1 < (l1.length : Int) then (some (rd l1 bt191.1, bt191.2.1, bt191.2.2)) else (none)) else (none))) = some (r1, r2, r3) := h
 clear h; replace H := bs_ H
 obtain ⟨⟨t191, t192, t193⟩, A30, H⟩ := H
 try dsimp only at H
 have A3 := aM A30
 clear A30
 by_cases c4 : 0 ≤ t191
 ·rw [if_pos c4] at H; have c4b0 : decide (0 ≤ t191) = true := decide_eq_true c4; clear c4
  by_cases c5 : t191 < (l1.length : Int)
  ·rw [if_pos c5] at H; have c5b0 : decide (t191 < (l1.length : Int)) = true := decide_eq_true c5; clear c5
   simp only [Option.some.injEq, Prod.mk.injEq] at H
   obtain ⟨rfl, rfl, rfl⟩ := H
   go_enter Try.func33, Try.ntmps33
   go_wp2_with (first | (refine gl_ (some 9) Try.func27 #[.pointer (some ⟨g, 0, none⟩), .int .i64 (l1.length : Int)] ?_; (with_reducible refine (spec_l1Below.calls g s0_0 s0_1 s0_2 (l1.length : Int) t191 t192 t193 w0 _ ?side1 ?side2 A3.out).mono ?_); (case side1 => exact iw HI0); (case side2 => exact bw HB); rintro e w6 ⟨rfl, hi, hb, hk⟩; refine ⟨_, rfl, ?_⟩; replace HK := aM (KeepBut.trans (kw HK) hk (.inl rfl)); replace HB := aM (hb); replace HI0 := aM (hi); (try clear hb); (try clear hb2); (try clear hk); (try clear hi); have p194 : 0 ≤ (t191 : Int) := of_decide_eq_true as_; have q194 : t191 < (l1.length : Int) := of_decide_eq_true as_; obtain ⟨ad194, e194, hx194_0⟩ := Kd.at_int HR1.out t191 p194 q194; cases e194; replace hx194_0 := keep_cell HK.out hx194_0 (by first | (rw [add_block]; exact hf1 _ rfl (by omega)) | exact hf1 _ rfl (by omega) | exact hf1 ad194 rfl (by omega)); replace p194 := eq_true p194; replace q194 := eq_true q194))
   go_ret
   exact ⟨er, (iw HI0), (bw HB), (kw HK)⟩
  ·rw [if_neg c5] at H
   exact absurd H (by simp)
 ·rw [if_neg c4] at H
  exact absurd H (by simp)

/-! ### spec_l1Once: function 26 -/
def spec_l1Once.f (s0_0 : List Int) (s0_1 : Int) (s0_2 : Int) (a1 : Int) : Option (Bool × Int × Int) := (spec_l1Below.f s0_0 s0_1 s0_2 a1).bind fun bt195 => (some ((bt195.1 == 0), bt195.2.1, bt195.2.2))
theorem spec_l1Once.calls (g : Nat) (s0_0 : List Int) (s0_1 : Int) (s0_2 : Int) (a1 : Int) (r1 : Bool) (r2 : Int) (r3 : Int) (w0 w : World) (hI : IsS67 w0 w g s0_0 s0_1 s0_2) (hB : Below w0.heap.size w0 w) (h : spec_l1Once.f s0_0 s0_1 s0_2 a1 = some (r1, r2, r3)) :
  Calls Try.prog 26 #[.pointer (some ⟨g, 0, none⟩), .int .i64 a1] w fun e w' => e = .returned (.bool r1) ∧ IsS67 w0 w' g s0_0 r2 r3 ∧ Below w0.heap.size w0 w' ∧ KeepBut w w' g none := by
 have HI0 := aM hI
 have HK := aM (KeepBut.refl w g none)
 have HL := aM hB.size
 clear hI
 have HW0 := aM hB.size
 have HB := aM hB
 clear hB
 have H : ((spec_l1Below.f s0_0 s0_1 s0_2 a1).bind fun bt195 => (some ((bt195.1 == 0), bt195.2.1, bt195.2.2))) = some (r1, r2, r3) := h
 clear h; replace H := bs_ H
 obtain ⟨⟨t195, t196, t197⟩, A30, H⟩ := H
 try dsimp only at H
 have A3 := aM A30
 clear A30
 simp only [Option.some.injEq, Prod.mk.injEq] at H
 obtain ⟨rfl, rfl, rfl⟩ := H
 go_enter Try.func26, Try.ntmps26
 go_wp2_with (first | (refine gl_ (some 7) Try.func27 #[.pointer (some ⟨g, 0, none⟩), .int .i64 a1] ?_; (with_reducible refine (spec_l1Below.calls g s0_0 s0_1 s0_2 a1 t195 t196 t197 w0 _ ?side1 ?side2 A3.out).mono ?_); (case side1 => exact iw HI0); (case side2 => exact bw HB); rintro e w4 ⟨rfl, hi, hb, hk⟩; refine ⟨_, rfl, ?_⟩; replace HK := aM (KeepBut.trans (kw HK) hk (.inl rfl)); replace HB := aM (hb); replace HI0 := aM (hi); (try clear hb); (try clear hb2); (try clear hk); (try clear hi)))
 go_ret
 exact ⟨er, (iw HI0), (bw HB), (kw HK)⟩

end Go.Proofs.Ytdhignbneeapiaa.PFnChains
