/- What the Go functions that FnChains reaches compute, as Lean functions, and that the machine's calls do so; no conditions. -/
import Derived.Test.YtdhignbneeapiaaPFnChainsx0
import Derived.Test.YtdhignbneeapiaaPFnChainsx10
namespace Go.Proofs.Ytdhignbneeapiaa.PFnChains
open Go.Proofs.Ytdhignbneeapiaa
open Go.RowKit Go.Proofs.YtdhignbneeapiaaW.PrintWords Go.Proofs.YtdhignbneeapiaaW.PrintLast Go.Proofs.YtdhignbneeapiaaW.PrintMore
attribute [local go_sem] max2_int min2_int max_two min_two max_three min_three max_four min_four   -- for this text's walks alone
set_option linter.unusedVariables false
set_option linter.unusedSimpArgs false
set_option maxHeartbeats 8000000
set_option maxRecDepth 100000

/-! ### impl_InChain: function 19 -/
def impl_InChain.f (k : Nat) (a0_0 : Int) (l0_1 : List (S29)) (l1 : List (S76)) : Option (Int) := (impl_labelsAt.f k l0_1 l1).bind fun t502 => (some t502)
theorem impl_InChain.calls (k : Nat) (a0_0 : Int) (A0_1 : Option Addr) (c0_1 : Nat) (l0_1 : List (S29)) (A1 : Option Addr) (c1 : Nat) (l1 : List (S76)) (r : Int) (w : World) (hr0_1 : Kd.C k29 w A0_1 l0_1.length l0_1) (hc0_1 : l0_1.length ≤ c0_1) (hr1 : Kd.C k76 w A1 l1.length l1) (hc1 : l1.length ≤ c1) (h : impl_InChain.f k a0_0 l0_1 l1 = some r) :
  Calls Try.prog 19 #[.agg #[.int .i64 a0_0, .slice A0_1 l0_1.length c0_1], .slice A1 l1.length c1] w fun e w' => e = .returned (.int .i64 r) ∧ Below w.heap.size w w' := by
 have hu26 := Try.underlying26
 have HR0_1 := aM hr0_1
 have HC0_1 := aM hc0_1
 clear hr0_1 hc0_1
 have HR1 := aM hr1
 have HC1 := aM hc1
 clear hr1 hc1
 have HB := aM (Below.refl w.heap.size w)
 have H : ((impl_labelsAt.f k l0_1 l1).bind fun t502 => (some t502)) = some r := h
 clear h; replace H := bs_ H; obtain ⟨t502, A30, H⟩ := H; try dsimp only at H
 have A3 := aM A30
 clear A30
 obtain rfl := Option.some.inj H
 go_enter Try.func19, Try.ntmps19
 go_wp2_with (first | (refine be_ 2 #[.int .i64 a0_0, .slice A0_1 l0_1.length c0_1] 26 ?_; intro gb501 hg w4 hbox hb; have BK501 := aM (hbox); have GW501 := gw hg (bw HB); have GE501 := gw hg (bw HB); replace HB := aM (below_step (bw HB) hb); clear hb hbox hg; obtain ⟨hcz5_0, hcz5_1⟩ := zc2 BK501; have hfz5_0 := zf BK501) | (refine gl_ (some 8) Try.func45 #[.slice A0_1 l0_1.length c0_1, .slice A1 l1.length c1] ?_; (with_reducible refine (impl_labelsAt.calls k _ _ l0_1 _ _ l1 t502 _ ?side1 ?side2 ?side3 ?side4 A3.out).mono ?_); (case side1 => exact cA (Kd.C_below HR0_1.out HB.out)); (case side2 => exact HC0_1.out); (case side3 => exact cA (Kd.C_below HR1.out HB.out)); (case side4 => exact HC1.out); rintro e w6 ⟨rfl, hb⟩; refine ⟨_, rfl, ?_⟩; replace BK501 := bb BK501 hb; replace HB := aM (below_step (bw HB) hb); (try clear hb); (try clear hb2); (try clear hk); (try clear hi)))
 go_ret
 exact ⟨er, (bw HB)⟩

/-! ### impl_copySet: function 53 (a contract of the shelf) -/
def impl_copySet.f (l0 : List (S76)) : Option (List (S76)) := if l0.length < 4398046511104 then some l0 else none
theorem impl_copySet.calls (A0 : Option Addr) (c0 : Nat) (l0 : List (S76)) (r : List (S76)) (w : World) (hr0 : Kd.C k76 w A0 l0.length l0) (hc0 : l0.length ≤ c0) (h : impl_copySet.f l0 = some r) :
  Calls Try.prog 53 #[.slice A0 l0.length c0] w fun e w' => ∃ v0_ : Value, e = .returned (v0_) ∧ Kd.R k76 76 w' w.heap.size (fun _ => True) v0_ r ∧ Below w.heap.size w w' := by
 have HR0 := aM hr0
 have HC0 := aM hc0
 clear hr0 hc0
 have HB := aM (Below.refl w.heap.size w)
 unfold impl_copySet.f at h
 by_cases c2 : l0.length < 4398046511104
 ·rw [if_pos c2] at h
  have LM := aM c2
  clear c2
  obtain rfl := Option.some.inj h
  clear h
  go_enter Try.func53, Try.ntmps53
  go_wp2_with (first | ((with_reducible refine gate_builtin (b := .append) (xs := #[.const (.slice none 0 0), .tmp 3]) rfl ?_); at_builtin; refine Kd.R_append_rows k76 (w0 := w) w.heap.size rfl (.const (.slice none 0 0)) (.tmp 3) 27 76 (.agg #[(.string ⟨#[]⟩), (.string ⟨#[]⟩)]) 32 rfl Try.underlying27 (by kernel_rfl) rfl (by decide) (by omega) (.slice none 0 0) [] l0 _ _ _ (fun _ => True) (fun _ => False) rfl rfl ?aO ?aR (fun _ _ h => h) (fun _ h => h.elim) ?aF ?aB ?aS ?aL ?_; (case aR => exact cA (Kd.C_below HR0.out HB.out)); (case aB => exact (bw HB)); (case aF => exact (fun _ _ => trivial)); (case aO => exact Kd.R_nil _ _ _ _ _); (case aS => exact (below_size (bw HB))); (case aL => have := LM.out; simp; omega); intro v123 w9 ho hb hg hat; rw [List.nil_append] at ho; have n2_ := aM (hb); have n3_ := aM (ho); clear HB; have HB := n2_; have HO := n3_; clear n2_ n3_ ho hb hg hat))
  go_ret
  exact ⟨_, rfl, by (with_reducible repeat (first | apply aR1 | apply aR2 | apply aR3)); exact HO.out, (bw HB)⟩
 ·rw [if_neg c2] at h
  exact absurd h (by simp)

/-! ### impl_copyAlarm: function 29 -/
def impl_copyAlarm.f (l0_0 : List (S76)) (a0_1 : Int) (a0_2 : Int) (a0_3 : ByteArray) : Option ((List (S76)) × Int × Int × ByteArray) := (impl_copySet.f l0_0).bind fun t505 => (some (t505, a0_1, a0_2, a0_3))
theorem impl_copyAlarm.calls (A0_0 : Option Addr) (c0_0 : Nat) (l0_0 : List (S76)) (a0_1 : Int) (a0_2 : Int) (a0_3 : ByteArray) (r1 : List (S76)) (r2 : Int) (r3 : Int) (r4 : ByteArray) (w : World) (hr0_0 : Kd.C k76 w A0_0 l0_0.length l0_0) (hc0_0 : l0_0.length ≤ c0_0) (h : impl_copyAlarm.f l0_0 a0_1 a0_2 a0_3 = some (r1, r2, r3, r4)) :
  Calls Try.prog 29 #[.agg #[.slice A0_0 l0_0.length c0_0, .int .i64 a0_1, .int .i64 a0_2, .string a0_3]] w fun e w' => ∃ v0_ : Value, e = .returned (.agg #[v0_, .int .i64 r2, .int .i64 r3, .string r4]) ∧ Kd.R k76 76 w' w.heap.size (fun _ => True) v0_ r1 ∧ Below w.heap.size w w' := by
 have hu29 := Try.underlying29
 have HR0_0 := aM hr0_0
 have HC0_0 := aM hc0_0
 clear hr0_0 hc0_0
 have HB := aM (Below.refl w.heap.size w)
 have H : ((impl_copySet.f l0_0).bind fun t505 => (some (t505, a0_1, a0_2, a0_3))) = some (r1, r2, r3, r4) := h
 clear h; replace H := bs_ H; obtain ⟨t505, A20, H⟩ := H; try dsimp only at H
 have A2 := aM A20
 clear A20
 simp only [Option.some.injEq, Prod.mk.injEq] at H
 obtain ⟨rfl, rfl, rfl, rfl⟩ := H
 go_enter Try.func29, Try.ntmps29
 go_wp2_with (first | (refine be_ 1 #[.slice A0_0 l0_0.length c0_0, .int .i64 a0_1, .int .i64 a0_2, .string a0_3] 29 ?_; intro gb503 hg w3 hbox hb; have BK503 := aM (hbox); have GW503 := gw hg (bw HB); have GE503 := gw hg (bw HB); replace HB := aM (below_step (bw HB) hb); clear hb hbox hg) | (refine be_ 2 #[.slice none 0 0, .int .i64 0, .int .i64 0, .string (⟨#[]⟩ : ByteArray)] 29 ?_; intro gb504 hg w4 hbox hb; have BK504 := aM (hbox); have GW504 := gw hg (bw HB); have GE504 := gw hg (bw HB); replace HB := aM (below_step (bw HB) hb); have NB503_504 := nb1 hg BK503; have NB504_503 := nb2 hg BK503; replace BK503 := bb BK503 hb; clear hb hbox hg; have hnb5 := NB503_504.out; have hnc5 := NB504_503.out; obtain ⟨hcz6_0, hcz6_1, hcz6_2, hcz6_3⟩ := zc4 BK503; have hfz6_0 := zf BK503) | (refine gl_ (some 5) Try.func53 #[.slice A0_0 l0_0.length c0_0] ?_; (with_reducible refine (impl_copySet.calls _ _ l0_0 t505 _ ?side1 ?side2 A2.out).mono ?_); (case side1 => exact cA (Kd.C_below HR0_0.out HB.out)); (case side2 => exact HC0_0.out); rintro e w7 ⟨v506, rfl, ho0, hb⟩; refine ⟨_, rfl, ?_⟩; have HO507 := aM (Kd.R_lower ho0 (below_size (bw HB))); replace BK503 := bb BK503 hb; replace BK504 := bb BK504 hb; replace HB := aM (below_step (bw HB) hb); (try clear hb); (try clear hb2); (try clear hk); (try clear hi); (try clear ho0); obtain ⟨Ao8, co8, eo8⟩ := Kd.R_slice HO507.out; subst eo8; obtain ⟨hcz9_0, hcz9_1, hcz9_2, hcz9_3⟩ := zc4 BK503; have hfz9_0 := zf BK503; obtain ⟨hcz10_0, hcz10_1, hcz10_2, hcz10_3⟩ := zc4 BK504; have hfz10_0 := zf BK504))
 refine bodyPost_ret (results_cell_row rfl _ _ gb504 29 #[.slice Ao8 t505.length co8, .int .i64 a0_1, .int .i64 a0_2, .string a0_3] (0, 0) _ rfl (by refine blk_put (cs := #[.slice Ao8 t505.length co8, .int .i64 a0_1, .int .i64 a0_2, .string (⟨#[]⟩ : ByteArray)]) ?_ 3 _ rfl; refine blk_put (cs := #[.slice Ao8 t505.length co8, .int .i64 a0_1, .int .i64 0, .string (⟨#[]⟩ : ByteArray)]) ?_ 2 _ rfl; refine blk_put (cs := #[.slice Ao8 t505.length co8, .int .i64 0, .int .i64 0, .string (⟨#[]⟩ : ByteArray)]) ?_ 1 _ rfl; refine blk_put (cs := #[.slice none 0 0, .int .i64 0, .int .i64 0, .string (⟨#[]⟩ : ByteArray)]) ?_ 0 _ rfl; refine blk_far ?_ NB504_503.out _; exact aB BK504) Try.underlying29 rfl (by kernel_rfl)) rfl ?_
 exact ⟨_, er, by (with_reducible repeat (first | apply aR1 | apply aR2 | apply aR3)); exact Kd.R_mono (Kd.R_far (p := ⟨gb504, 3, none⟩) (Kd.R_far (p := ⟨gb504, 2, none⟩) (Kd.R_far (p := ⟨gb504, 1, none⟩) (Kd.R_far (p := ⟨gb504, 0, none⟩) (Kd.R_far (p := ⟨gb503, 0, none⟩) (Kd.R_types (Kd.R_types HO507.out BK503.out (by decide)) BK504.out (by decide)) (fun _ hk => hk.1.2) (.slice Ao8 t505.length co8)) (fun _ hk => hk.2) (.slice Ao8 t505.length co8)) (fun _ hk => hk.2) (.int .i64 a0_1)) (fun _ hk => hk.2) (.int .i64 a0_2)) (fun _ hk => hk.2) (.string a0_3)) (fun _ hk => trivial), (bw HB)⟩

/-! ### impl_Touch: function 47 -/
def impl_Touch.f (l0_0 : List (S76)) (a0_1 : Int) (a0_2 : Int) (a0_3 : ByteArray) (l1_0 : List (S76)) (a1_1 : Int) (a1_2 : Int) (a1_3 : ByteArray) : Option (Bool) := if a0_1 ≤ a1_2 then (some (decide (a1_1 ≤ a0_2))) else (some false)
theorem impl_Touch.calls (A0_0 : Option Addr) (c0_0 : Nat) (l0_0 : List (S76)) (a0_1 : Int) (a0_2 : Int) (a0_3 : ByteArray) (A1_0 : Option Addr) (c1_0 : Nat) (l1_0 : List (S76)) (a1_1 : Int) (a1_2 : Int) (a1_3 : ByteArray) (r : Bool) (w : World) (hr0_0 : Kd.C k76 w A0_0 l0_0.length l0_0) (hc0_0 : l0_0.length ≤ c0_0) (hr1_0 : Kd.C k76 w A1_0 l1_0.length l1_0) (hc1_0 : l1_0.length ≤ c1_0) (h : impl_Touch.f l0_0 a0_1 a0_2 a0_3 l1_0 a1_1 a1_2 a1_3 = some r) :
  Calls Try.prog 47 #[.agg #[.slice A0_0 l0_0.length c0_0, .int .i64 a0_1, .int .i64 a0_2, .string a0_3], .agg #[.slice A1_0 l1_0.length c1_0, .int .i64 a1_1, .int .i64 a1_2, .string a1_3]] w fun e w' => e = .returned (.bool r) ∧ Below w.heap.size w w' := by
 have hu29 := Try.underlying29
 have HR0_0 := aM hr0_0
 have HC0_0 := aM hc0_0
 clear hr0_0 hc0_0
 have HR1_0 := aM hr1_0
 have HC1_0 := aM hc1_0
 clear hr1_0 hc1_0
 have HB := aM (Below.refl w.heap.size w)
 have H : (if a0_1 ≤ a1_2 then (some (decide (a1_1 ≤ a0_2))) else (some false)) = some r := h
 clear h
 by_cases c3 : a0_1 ≤ a1_2
 ·rw [if_pos c3] at H; have c3b0 : decide (a0_1 ≤ a1_2) = true := decide_eq_true c3; clear c3
  obtain rfl := Option.some.inj H
  go_enter Try.func47, Try.ntmps47
  go_wp2_with (first | (refine be_ 2 #[.slice A0_0 l0_0.length c0_0, .int .i64 a0_1, .int .i64 a0_2, .string a0_3] 29 ?_; intro gb508 hg w4 hbox hb; have BK508 := aM (hbox); have GW508 := gw hg (bw HB); have GE508 := gw hg (bw HB); replace HB := aM (below_step (bw HB) hb); clear hb hbox hg) | (refine be_ 3 #[.slice A1_0 l1_0.length c1_0, .int .i64 a1_1, .int .i64 a1_2, .string a1_3] 29 ?_; intro gb509 hg w5 hbox hb; have BK509 := aM (hbox); have GW509 := gw hg (bw HB); have GE509 := gw hg (bw HB); replace HB := aM (below_step (bw HB) hb); have NB508_509 := nb1 hg BK508; have NB509_508 := nb2 hg BK508; replace BK508 := bb BK508 hb; clear hb hbox hg; have hnb6 := NB508_509.out; have hnc6 := NB509_508.out; obtain ⟨hcz7_0, hcz7_1, hcz7_2, hcz7_3⟩ := zc4 BK508; have hfz7_0 := zf BK508; obtain ⟨hcz8_0, hcz8_1, hcz8_2, hcz8_3⟩ := zc4 BK509; have hfz8_0 := zf BK509))
  go_ret
  exact ⟨er, (bw HB)⟩
 ·rw [if_neg c3] at H; have c3b0 : decide (a0_1 ≤ a1_2) = false := decide_eq_false c3; clear c3
  obtain rfl := Option.some.inj H
  go_enter Try.func47, Try.ntmps47
  go_wp2_with (first | (refine be_ 2 #[.slice A0_0 l0_0.length c0_0, .int .i64 a0_1, .int .i64 a0_2, .string a0_3] 29 ?_; intro gb508 hg w9 hbox hb; have BK508 := aM (hbox); have GW508 := gw hg (bw HB); have GE508 := gw hg (bw HB); replace HB := aM (below_step (bw HB) hb); clear hb hbox hg) | (refine be_ 3 #[.slice A1_0 l1_0.length c1_0, .int .i64 a1_1, .int .i64 a1_2, .string a1_3] 29 ?_; intro gb509 hg w10 hbox hb; have BK509 := aM (hbox); have GW509 := gw hg (bw HB); have GE509 := gw hg (bw HB); replace HB := aM (below_step (bw HB) hb); have NB508_509 := nb1 hg BK508; have NB509_508 := nb2 hg BK508; replace BK508 := bb BK508 hb; clear hb hbox hg; have hnb11 := NB508_509.out; have hnc11 := NB509_508.out; obtain ⟨hcz12_0, hcz12_1, hcz12_2, hcz12_3⟩ := zc4 BK508; have hfz12_0 := zf BK508; obtain ⟨hcz13_0, hcz13_1, hcz13_2, hcz13_3⟩ := zc4 BK509; have hfz13_0 := zf BK509))
  go_ret
  exact ⟨er, (bw HB)⟩

/-! ### impl_Merge: function 22 -/
def impl_Merge.f (l0_0 : List (S76)) (a0_1 : Int) (a0_2 : Int) (a0_3 : ByteArray) (l1_0 : List (S76)) (a1_1 : Int) (a1_2 : Int) (a1_3 : ByteArray) : Option ((List (S76)) × Int × Int × ByteArray) := (impl_copyAlarm.f l1_0 a1_1 a1_2 a1_3).bind fun bt513 => ((impl_Touch.f l0_0 a0_1 a0_2 a0_3 l1_0 a1_1 a1_2 a1_3).bind fun t520 => (if t520 = true then (some (bt513.1, mn a0_1 a1_1, bt513.2.2.1, bt513.2.2.2)) else (some (bt513.1, bt513.2.1, bt513.2.2.1, bt513.2.2.2))))
theorem impl_Merge.calls (A0_0 : Option Addr) (c0_0 : Nat) (l0_0 : List (S76)) (a0_1 : Int) (a0_2 : Int) (a0_3 : ByteArray) (A1_0 : Option Addr) (c1_0 : Nat) (l1_0 : List (S76)) (a1_1 : Int) (a1_2 : Int) (a1_3 : ByteArray) (r1 : List (S76)) (r2 : Int) (r3 : Int) (r4 : ByteArray) (w : World) (hr0_0 : Kd.C k76 w A0_0 l0_0.length l0_0) (hc0_0 : l0_0.length ≤ c0_0) (hr1_0 : Kd.C k76 w A1_0 l1_0.length l1_0) (hc1_0 : l1_0.length ≤ c1_0) (h : impl_Merge.f l0_0 a0_1 a0_2 a0_3 l1_0 a1_1 a1_2 a1_3 = some (r1, r2, r3, r4)) :
  Calls Try.prog 22 #[.agg #[.slice A0_0 l0_0.length c0_0, .int .i64 a0_1, .int .i64 a0_2, .string a0_3], .agg #[.slice A1_0 l1_0.length c1_0, .int .i64 a1_1, .int .i64 a1_2, .string a1_3]] w fun e w' => ∃ v0_ : Value, e = .returned (.agg #[v0_, .int .i64 r2, .int .i64 r3, .string r4]) ∧ Kd.R k76 76 w' w.heap.size (fun _ => True) v0_ r1 ∧ Below w.heap.size w w' := by
 have hu29 := Try.underlying29
 have HR0_0 := aM hr0_0
 have HC0_0 := aM hc0_0
 clear hr0_0 hc0_0
 have HR1_0 := aM hr1_0
 have HC1_0 := aM hc1_0
 clear hr1_0 hc1_0
 have HB := aM (Below.refl w.heap.size w)
 have H : ((impl_copyAlarm.f l1_0 a1_1 a1_2 a1_3).bind fun bt513 => ((impl_Touch.f l0_0 a0_1 a0_2 a0_3 l1_0 a1_1 a1_2 a1_3).bind fun t520 => (if t520 = true then (some (bt513.1, mn a0_1 a1_1, bt513.2.2.1, bt513.2.2.2)) else (some (bt513.1, bt513.2.1, bt513.2.2.1, bt513.2.2.2))))) = some (r1, r2, r3, r4) := h
 clear h; replace H := bs_ H
 obtain ⟨⟨t513, t516, t517, t518⟩, A30, H⟩ := H
 try dsimp only at H
 have A3 := aM A30
 clear A30; replace H := bs_ H; obtain ⟨t520, A40, H⟩ := H; try dsimp only at H
 have A4 := aM A40
 clear A40
 by_cases c5 : t520 = true
 ·subst c5
  have H1 : (some (t513, mn a0_1 a1_1, t517, t518)) = some (r1, r2, r3, r4) := by rw [if_pos rfl] at H; exact H
  clear H
  have H := H1
  clear H1
  obtain ⟨ji6, hji6⟩ : ∃ j_ : Int, (mn a0_1 a1_1) = j_ := ⟨_, rfl⟩
  replace H : (some (t513, ji6, t517, t518)) = some (r1, r2, r3, r4) := by first | (rw [hji6] at H; exact H) | (simp only [hji6] at H ⊢; exact H)
  (try rw [hji6] at A3)
  (try rw [hji6] at A4)
  have hji6_ : (if a1_1 < a0_1 then a1_1 else a0_1) = ji6 := hji6
  simp only [Option.some.injEq, Prod.mk.injEq] at H
  obtain ⟨rfl, rfl, rfl, rfl⟩ := H
  go_enter Try.func22, Try.ntmps22
  go_wp2_with (first | (refine be_ 2 #[.slice A0_0 l0_0.length c0_0, .int .i64 a0_1, .int .i64 a0_2, .string a0_3] 29 ?_; intro gb510 hg w7 hbox hb; have BK510 := aM (hbox); have GW510 := gw hg (bw HB); have GE510 := gw hg (bw HB); replace HB := aM (below_step (bw HB) hb); clear hb hbox hg) | (refine be_ 3 #[.slice A1_0 l1_0.length c1_0, .int .i64 a1_1, .int .i64 a1_2, .string a1_3] 29 ?_; intro gb511 hg w8 hbox hb; have BK511 := aM (hbox); have GW511 := gw hg (bw HB); have GE511 := gw hg (bw HB); replace HB := aM (below_step (bw HB) hb); have NB510_511 := nb1 hg BK510; have NB511_510 := nb2 hg BK510; replace BK510 := bb BK510 hb; clear hb hbox hg) | (refine be_ 4 #[.slice none 0 0, .int .i64 0, .int .i64 0, .string (⟨#[]⟩ : ByteArray)] 29 ?_; intro gb512 hg w9 hbox hb; have BK512 := aM (hbox); have GW512 := gw hg (bw HB); have GE512 := gw hg (bw HB); replace HB := aM (below_step (bw HB) hb); have NB510_512 := nb1 hg BK510; have NB512_510 := nb2 hg BK510; replace BK510 := bb BK510 hb; have NB511_512 := nb1 hg BK511; have NB512_511 := nb2 hg BK511; replace BK511 := bb BK511 hb; clear hb hbox hg; have hnb10 := NB511_510.out; have hnc10 := NB510_511.out; have hnb11 := NB511_512.out; have hnc11 := NB512_511.out; obtain ⟨hcz12_0, hcz12_1, hcz12_2, hcz12_3⟩ := zc4 BK511; have hfz12_0 := zf BK511) | (refine gl_ (some 7) Try.func29 #[.agg #[.slice A1_0 l1_0.length c1_0, .int .i64 a1_1, .int .i64 a1_2, .string a1_3]] ?_; (with_reducible refine (impl_copyAlarm.calls _ _ l1_0 a1_1 a1_2 a1_3 t513 t516 t517 t518 _ ?side1 ?side2 A3.out).mono ?_); (case side1 => exact cA (Kd.C_below HR1_0.out HB.out)); (case side2 => exact HC1_0.out); rintro e w13 ⟨v514, rfl, ho0, hb⟩; refine ⟨_, rfl, ?_⟩; have HO515 := aM (Kd.R_lower ho0 (below_size (bw HB))); replace BK510 := bb BK510 hb; replace BK511 := bb BK511 hb; replace BK512 := bb BK512 hb; replace HB := aM (below_step (bw HB) hb); (try clear hb); (try clear hb2); (try clear hk); (try clear hi); (try clear ho0)) | (refine be_ 5 #[.slice none 0 0, .int .i64 0, .int .i64 0, .string (⟨#[]⟩ : ByteArray)] 29 ?_; intro gb519 hg w14 hbox hb; replace HO515 := rb HO515 hb; have BK519 := aM (hbox); have GW519 := gw hg (bw HB); have GE519 := gw hg (bw HB); replace HB := aM (below_step (bw HB) hb); have NB510_519 := nb1 hg BK510; have NB519_510 := nb2 hg BK510; replace BK510 := bb BK510 hb; have NB511_519 := nb1 hg BK511; have NB519_511 := nb2 hg BK511; replace BK511 := bb BK511 hb; have NB512_519 := nb1 hg BK512; have NB519_512 := nb2 hg BK512; replace BK512 := bb BK512 hb; clear hb hbox hg; obtain ⟨Ao15, co15, eo15⟩ := Kd.R_slice HO515.out; subst eo15; have hnb16 := NB519_510.out; have hnc16 := NB510_519.out; have hnb17 := NB519_511.out; have hnc17 := NB511_519.out; have hnb18 := NB519_512.out; have hnc18 := NB512_519.out; obtain ⟨hcz19_0, hcz19_1, hcz19_2, hcz19_3⟩ := zc4 BK519; have hfz19_0 := zf BK519; have hnb20 := NB510_512.out; have hnc20 := NB512_510.out; obtain ⟨hcz21_0, hcz21_1, hcz21_2, hcz21_3⟩ := zc4 BK510; have hfz21_0 := zf BK510; obtain ⟨hcz22_0, hcz22_1, hcz22_2, hcz22_3⟩ := zc4 BK511; have hfz22_0 := zf BK511) | (refine gl_ (some 10) Try.func47 #[.agg #[.slice A0_0 l0_0.length c0_0, .int .i64 a0_1, .int .i64 a0_2, .string a0_3], .agg #[.slice A1_0 l1_0.length c1_0, .int .i64 a1_1, .int .i64 a1_2, .string a1_3]] ?_; (with_reducible refine (impl_Touch.calls _ _ l0_0 a0_1 a0_2 a0_3 _ _ l1_0 a1_1 a1_2 a1_3 true _ ?side1 ?side2 ?side3 ?side4 A4.out).mono ?_); (case side1 => exact Kd.C_below HR0_0.out (bw HB)); (case side2 => exact HC0_0.out); (case side3 => exact Kd.C_below HR1_0.out (bw HB)); (case side4 => exact HC1_0.out); rintro e w23 ⟨rfl, hb⟩; refine ⟨_, rfl, ?_⟩; replace HO515 := aM (Kd.R_below (by (with_reducible repeat (first | apply aR1 | apply aR2 | apply aR3)); exact (Kd.R_mono (Kd.R_far (p := ⟨gb519, 3, none⟩) (Kd.R_far (p := ⟨gb519, 2, none⟩) (Kd.R_far (p := ⟨gb519, 1, none⟩) (Kd.R_far (p := ⟨gb519, 0, none⟩) (Kd.R_types HO515.out BK519.out (by decide)) (fun _ hk => hk.2) (.slice Ao15 t513.length co15)) (fun _ hk => hk.2) (.int .i64 t516)) (fun _ hk => hk.2) (.int .i64 t517)) (fun _ hk => hk.2) (.string t518)) (fun _ h_ => h_.1))) hb); replace BK510 := aM (blk_below (g := gb510) (o := .cells #[.slice A0_0 l0_0.length c0_0, .int .i64 a0_1, .int .i64 a0_2, .string a0_3] 29 (0, 0)) (by refine blk_far ?_ NB510_519.out _; refine blk_far ?_ NB510_519.out _; refine blk_far ?_ NB510_519.out _; refine blk_far ?_ NB510_519.out _; exact aB BK510) hb); replace BK511 := aM (blk_below (g := gb511) (o := .cells #[.slice A1_0 l1_0.length c1_0, .int .i64 a1_1, .int .i64 a1_2, .string a1_3] 29 (0, 0)) (by refine blk_far ?_ NB511_519.out _; refine blk_far ?_ NB511_519.out _; refine blk_far ?_ NB511_519.out _; refine blk_far ?_ NB511_519.out _; exact aB BK511) hb); replace BK512 := aM (blk_below (g := gb512) (o := .cells #[.slice none 0 0, .int .i64 0, .int .i64 0, .string (⟨#[]⟩ : ByteArray)] 29 (0, 0)) (by refine blk_far ?_ NB512_519.out _; refine blk_far ?_ NB512_519.out _; refine blk_far ?_ NB512_519.out _; refine blk_far ?_ NB512_519.out _; exact aB BK512) hb); replace BK519 := aM (blk_below (g := gb519) (o := .cells #[.slice Ao15 t513.length co15, .int .i64 t516, .int .i64 t517, .string t518] 29 (0, 0)) (by refine blk_put (cs := #[.slice Ao15 t513.length co15, .int .i64 t516, .int .i64 t517, .string (⟨#[]⟩ : ByteArray)]) ?_ 3 _ rfl; refine blk_put (cs := #[.slice Ao15 t513.length co15, .int .i64 t516, .int .i64 0, .string (⟨#[]⟩ : ByteArray)]) ?_ 2 _ rfl; refine blk_put (cs := #[.slice Ao15 t513.length co15, .int .i64 0, .int .i64 0, .string (⟨#[]⟩ : ByteArray)]) ?_ 1 _ rfl; refine blk_put (cs := #[.slice none 0 0, .int .i64 0, .int .i64 0, .string (⟨#[]⟩ : ByteArray)]) ?_ 0 _ rfl; exact aB BK519) hb); replace HB := aM (below_step (bw HB) hb); (try clear hb); (try clear hb2); (try clear hk); (try clear hi); obtain ⟨hcz24_0, hcz24_1, hcz24_2, hcz24_3⟩ := zc4 BK510; have hfz24_0 := zf BK510; obtain ⟨hcz25_0, hcz25_1, hcz25_2, hcz25_3⟩ := zc4 BK511; have hfz25_0 := zf BK511; obtain ⟨hcz26_0, hcz26_1, hcz26_2, hcz26_3⟩ := zc4 BK519; have hfz26_0 := zf BK519; obtain ⟨hcz27_0, hcz27_1, hcz27_2, hcz27_3⟩ := zc4 BK512; have hfz27_0 := zf BK512))
  refine bodyPost_ret (results_cell_row rfl _ _ gb512 29 #[.slice Ao15 t513.length co15, .int .i64 ji6, .int .i64 t517, .string t518] (0, 0) _ rfl (by refine blk_put (cs := #[.slice Ao15 t513.length co15, .int .i64 ji6, .int .i64 t517, .string (⟨#[]⟩ : ByteArray)]) ?_ 3 _ rfl; refine blk_put (cs := #[.slice Ao15 t513.length co15, .int .i64 ji6, .int .i64 0, .string (⟨#[]⟩ : ByteArray)]) ?_ 2 _ rfl; refine blk_put (cs := #[.slice Ao15 t513.length co15, .int .i64 0, .int .i64 0, .string (⟨#[]⟩ : ByteArray)]) ?_ 1 _ rfl; refine blk_put (cs := #[.slice none 0 0, .int .i64 0, .int .i64 0, .string (⟨#[]⟩ : ByteArray)]) ?_ 0 _ rfl; refine blk_far ?_ NB512_519.out _; exact aB BK512) Try.underlying29 rfl (by kernel_rfl)) rfl ?_
  exact ⟨_, by first | rfl | (simp [errW_none, errW_some] <;> rfl) | (simp only [← hji6]; first | rfl | (simp [errW_none, errW_some] <;> rfl)) | (simp [*, errW_none, errW_some] <;> rfl), by (with_reducible repeat (first | apply aR1 | apply aR2 | apply aR3)); exact Kd.R_mono (Kd.R_far (p := ⟨gb512, 3, none⟩) (Kd.R_far (p := ⟨gb512, 2, none⟩) (Kd.R_far (p := ⟨gb512, 1, none⟩) (Kd.R_far (p := ⟨gb512, 0, none⟩) (Kd.R_far (p := ⟨gb519, 1, none⟩) (Kd.R_types (Kd.R_types HO515.out BK519.out (by decide)) BK512.out (by decide)) (fun _ hk => hk.1.2) (.int .i64 ji6)) (fun _ hk => hk.2) (.slice Ao15 t513.length co15)) (fun _ hk => hk.2) (.int .i64 ji6)) (fun _ hk => hk.2) (.int .i64 t517)) (fun _ hk => hk.2) (.string t518)) (fun _ hk => trivial), (bw HB)⟩
 ·replace c5 := Bool.eq_false_iff.mpr c5
  subst c5
  have H1 : (some (t513, t516, t517, t518)) = some (r1, r2, r3, r4) := by rw [if_neg (show ¬ (false = true) by decide)] at H; exact H
  clear H
  have H := H1
  clear H1
  simp only [Option.some.injEq, Prod.mk.injEq] at H
  obtain ⟨rfl, rfl, rfl, rfl⟩ := H
  go_enter Try.func22, Try.ntmps22
  go_wp2_with (first | (refine be_ 2 #[.slice A0_0 l0_0.length c0_0, .int .i64 a0_1, .int .i64 a0_2, .string a0_3] 29 ?_; intro gb510 hg w28 hbox hb; have BK510 := aM (hbox); have GW510 := gw hg (bw HB); have GE510 := gw hg (bw HB); replace HB := aM (below_step (bw HB) hb); clear hb hbox hg) | (refine be_ 3 #[.slice A1_0 l1_0.length c1_0, .int .i64 a1_1, .int .i64 a1_2, .string a1_3] 29 ?_; intro gb511 hg w29 hbox hb; have BK511 := aM (hbox); have GW511 := gw hg (bw HB); have GE511 := gw hg (bw HB); replace HB := aM (below_step (bw HB) hb); have NB510_511 := nb1 hg BK510; have NB511_510 := nb2 hg BK510; replace BK510 := bb BK510 hb; clear hb hbox hg) | (refine be_ 4 #[.slice none 0 0, .int .i64 0, .int .i64 0, .string (⟨#[]⟩ : ByteArray)] 29 ?_; intro gb512 hg w30 hbox hb; have BK512 := aM (hbox); have GW512 := gw hg (bw HB); have GE512 := gw hg (bw HB); replace HB := aM (below_step (bw HB) hb); have NB510_512 := nb1 hg BK510; have NB512_510 := nb2 hg BK510; replace BK510 := bb BK510 hb; have NB511_512 := nb1 hg BK511; have NB512_511 := nb2 hg BK511; replace BK511 := bb BK511 hb; clear hb hbox hg; have hnb31 := NB511_510.out; have hnc31 := NB510_511.out; have hnb32 := NB511_512.out; have hnc32 := NB512_511.out; obtain ⟨hcz33_0, hcz33_1, hcz33_2, hcz33_3⟩ := zc4 BK511; have hfz33_0 := zf BK511) | (refine gl_ (some 7) Try.func29 #[.agg #[.slice A1_0 l1_0.length c1_0, .int .i64 a1_1, .int .i64 a1_2, .string a1_3]] ?_; (with_reducible refine (impl_copyAlarm.calls _ _ l1_0 a1_1 a1_2 a1_3 t513 t516 t517 t518 _ ?side1 ?side2 A3.out).mono ?_); (case side1 => exact cA (Kd.C_below HR1_0.out HB.out)); (case side2 => exact HC1_0.out); rintro e w34 ⟨v514, rfl, ho0, hb⟩; refine ⟨_, rfl, ?_⟩; have HO515 := aM (Kd.R_lower ho0 (below_size (bw HB))); replace BK510 := bb BK510 hb; replace BK511 := bb BK511 hb; replace BK512 := bb BK512 hb; replace HB := aM (below_step (bw HB) hb); (try clear hb); (try clear hb2); (try clear hk); (try clear hi); (try clear ho0)) | (refine be_ 5 #[.slice none 0 0, .int .i64 0, .int .i64 0, .string (⟨#[]⟩ : ByteArray)] 29 ?_; intro gb519 hg w35 hbox hb; replace HO515 := rb HO515 hb; have BK519 := aM (hbox); have GW519 := gw hg (bw HB); have GE519 := gw hg (bw HB); replace HB := aM (below_step (bw HB) hb); have NB510_519 := nb1 hg BK510; have NB519_510 := nb2 hg BK510; replace BK510 := bb BK510 hb; have NB511_519 := nb1 hg BK511; have NB519_511 := nb2 hg BK511; replace BK511 := bb BK511 hb; have NB512_519 := nb1 hg BK512; have NB519_512 := nb2 hg BK512; replace BK512 := bb BK512 hb; clear hb hbox hg; obtain ⟨Ao36, co36, eo36⟩ := Kd.R_slice HO515.out; subst eo36; have hnb37 := NB519_510.out; have hnc37 := NB510_519.out; have hnb38 := NB519_511.out; have hnc38 := NB511_519.out; have hnb39 := NB519_512.out; have hnc39 := NB512_519.out; obtain ⟨hcz40_0, hcz40_1, hcz40_2, hcz40_3⟩ := zc4 BK519; have hfz40_0 := zf BK519; have hnb41 := NB510_512.out; have hnc41 := NB512_510.out; obtain ⟨hcz42_0, hcz42_1, hcz42_2, hcz42_3⟩ := zc4 BK510; have hfz42_0 := zf BK510; obtain ⟨hcz43_0, hcz43_1, hcz43_2, hcz43_3⟩ := zc4 BK511; have hfz43_0 := zf BK511) | (refine gl_ (some 10) Try.func47 #[.agg #[.slice A0_0 l0_0.length c0_0, .int .i64 a0_1, .int .i64 a0_2, .string a0_3], .agg #[.slice A1_0 l1_0.length c1_0, .int .i64 a1_1, .int .i64 a1_2, .string a1_3]] ?_; (with_reducible refine (impl_Touch.calls _ _ l0_0 a0_1 a0_2 a0_3 _ _ l1_0 a1_1 a1_2 a1_3 false _ ?side1 ?side2 ?side3 ?side4 A4.out).mono ?_); (case side1 => exact Kd.C_below HR0_0.out (bw HB)); (case side2 => exact HC0_0.out); (case side3 => exact Kd.C_below HR1_0.out (bw HB)); (case side4 => exact HC1_0.out); rintro e w44 ⟨rfl, hb⟩; refine ⟨_, rfl, ?_⟩; replace HO515 := aM (Kd.R_below (by (with_reducible repeat (first | apply aR1 | apply aR2 | apply aR3)); exact (Kd.R_mono (Kd.R_far (p := ⟨gb519, 3, none⟩) (Kd.R_far (p := ⟨gb519, 2, none⟩) (Kd.R_far (p := ⟨gb519, 1, none⟩) (Kd.R_far (p := ⟨gb519, 0, none⟩) (Kd.R_types HO515.out BK519.out (by decide)) (fun _ hk => hk.2) (.slice Ao36 t513.length co36)) (fun _ hk => hk.2) (.int .i64 t516)) (fun _ hk => hk.2) (.int .i64 t517)) (fun _ hk => hk.2) (.string t518)) (fun _ h_ => h_.1))) hb); replace BK510 := aM (blk_below (g := gb510) (o := .cells #[.slice A0_0 l0_0.length c0_0, .int .i64 a0_1, .int .i64 a0_2, .string a0_3] 29 (0, 0)) (by refine blk_far ?_ NB510_519.out _; refine blk_far ?_ NB510_519.out _; refine blk_far ?_ NB510_519.out _; refine blk_far ?_ NB510_519.out _; exact aB BK510) hb); replace BK511 := aM (blk_below (g := gb511) (o := .cells #[.slice A1_0 l1_0.length c1_0, .int .i64 a1_1, .int .i64 a1_2, .string a1_3] 29 (0, 0)) (by refine blk_far ?_ NB511_519.out _; refine blk_far ?_ NB511_519.out _; refine blk_far ?_ NB511_519.out _; refine blk_far ?_ NB511_519.out _; exact aB BK511) hb); replace BK512 := aM (blk_below (g := gb512) (o := .cells #[.slice none 0 0, .int .i64 0, .int .i64 0, .string (⟨#[]⟩ : ByteArray)] 29 (0, 0)) (by refine blk_far ?_ NB512_519.out _; refine blk_far ?_ NB512_519.out _; refine blk_far ?_ NB512_519.out _; refine blk_far ?_ NB512_519.out _; exact aB BK512) hb); replace BK519 := aM (blk_below (g := gb519) (o := .cells #[.slice Ao36 t513.length co36, .int .i64 t516, .int .i64 t517, .string t518] 29 (0, 0)) (by refine blk_put (cs := #[.slice Ao36 t513.length co36, .int .i64 t516, .int .i64 t517, .string (⟨#[]⟩ : ByteArray)]) ?_ 3 _ rfl; refine blk_put (cs := #[.slice Ao36 t513.length co36, .int .i64 t516, .int .i64 0, .string (⟨#[]⟩ : ByteArray)]) ?_ 2 _ rfl; refine blk_put (cs := #[.slice Ao36 t513.length co36, .int .i64 0, .int .i64 0, .string (⟨#[]⟩ : ByteArray)]) ?_ 1 _ rfl; refine blk_put (cs := #[.slice none 0 0, .int .i64 0, .int .i64 0, .string (⟨#[]⟩ : ByteArray)]) ?_ 0 _ rfl; exact aB BK519) hb); replace HB := aM (below_step (bw HB) hb); (try clear hb); (try clear hb2); (try clear hk); (try clear hi); obtain ⟨hcz45_0, hcz45_1, hcz45_2, hcz45_3⟩ := zc4 BK519; have hfz45_0 := zf BK519; obtain ⟨hcz46_0, hcz46_1, hcz46_2, hcz46_3⟩ := zc4 BK512; have hfz46_0 := zf BK512))
  refine bodyPost_ret (results_cell_row rfl _ _ gb512 29 #[.slice Ao36 t513.length co36, .int .i64 t516, .int .i64 t517, .string t518] (0, 0) _ rfl (by refine blk_put (cs := #[.slice Ao36 t513.length co36, .int .i64 t516, .int .i64 t517, .string (⟨#[]⟩ : ByteArray)]) ?_ 3 _ rfl; refine blk_put (cs := #[.slice Ao36 t513.length co36, .int .i64 t516, .int .i64 0, .string (⟨#[]⟩ : ByteArray)]) ?_ 2 _ rfl; refine blk_put (cs := #[.slice Ao36 t513.length co36, .int .i64 0, .int .i64 0, .string (⟨#[]⟩ : ByteArray)]) ?_ 1 _ rfl; refine blk_put (cs := #[.slice none 0 0, .int .i64 0, .int .i64 0, .string (⟨#[]⟩ : ByteArray)]) ?_ 0 _ rfl; exact aB BK512) Try.underlying29 rfl (by kernel_rfl)) rfl ?_
  exact ⟨_, er, by (with_reducible repeat (first | apply aR1 | apply aR2 | apply aR3)); exact Kd.R_mono (Kd.R_far (p := ⟨gb512, 3, none⟩) (Kd.R_far (p := ⟨gb512, 2, none⟩) (Kd.R_far (p := ⟨gb512, 1, none⟩) (Kd.R_far (p := ⟨gb512, 0, none⟩) (Kd.R_types HO515.out BK512.out (by decide)) (fun _ hk => hk.2) (.slice Ao36 t513.length co36)) (fun _ hk => hk.2) (.int .i64 t516)) (fun _ hk => hk.2) (.int .i64 t517)) (fun _ hk => hk.2) (.string t518)) (fun _ hk => trivial), (bw HB)⟩

/-! ### impl_copyAlarms: function 52 -/
def impl_copyAlarms.l0 : Nat → List (S29) → List (S29) → Int → Int → Option ((List (S29)))
 | 0, _, _, _, _ => none
 | k + 1, x3, x6, x7, x8 => if x8 < x7 then (if 0 ≤ x8 then (if x8 < (x6.length : Int) then ((impl_copyAlarm.f ((rd_T29 x6 x8).f0) ((rd_T29 x6 x8).f1) ((rd_T29 x6 x8).f2) ((rd_T29 x6 x8).f3)).bind fun bt523 => (if x3.length < 2513169434916 then (impl_copyAlarms.l0 k (x3 ++ [(⟨bt523.1, bt523.2.1, bt523.2.2.1, bt523.2.2.2⟩ : S29)]) x6 x7 (wrap64 (x8 + 1))) else (none))) else (none)) else (none)) else (some x3)
def impl_copyAlarms.f (k : Nat) (l0 : List (S29)) : Option ((List (S29))) := impl_copyAlarms.l0 k ([] : List (S29)) l0 (l0.length : Int) 0
theorem impl_copyAlarms.calls (k : Nat) (A0 : Option Addr) (c0 : Nat) (l0 : List (S29)) (r : List (S29)) (w : World) (hr0 : Kd.C k29 w A0 l0.length l0) (hc0 : l0.length ≤ c0) (h : impl_copyAlarms.f k l0 = some r) :
  Calls Try.prog 52 #[.slice A0 l0.length c0] w fun e w' => ∃ v0_ : Value, e = .returned (v0_) ∧ Kd.S k29 29 w' w.heap.size (fun _ => True) v0_ r ∧ Below w.heap.size w w' := by
 have hu29 := Try.underlying29
 have HR0 := aM hr0
 have HC0 := aM hc0
 clear hr0 hc0
 have HB := aM (Below.refl w.heap.size w)
 have H : (impl_copyAlarms.l0 k ([] : List (S29)) l0 (l0.length : Int) 0) = some r := h
 clear h
 have H' := aM H
 clear H
 go_enter Try.func52, Try.ntmps52
 go_wp2
 go_loopg [3, 8] k (fun kq v3 v8 w' => ∃ (x3_1 : List (S29)) (x8_1 : Int), v8 = .int .i64 x8_1 ∧ Aside0 (impl_copyAlarms.l0 kq x3_1 l0 (l0.length : Int) x8_1 = some r) ∧ Aside0 (kq ≤ k) ∧ Aside0 (Kd.S k29 29 w' w.heap.size (fun _ => True) v3 x3_1) ∧ Aside0 (Below w.heap.size w w'))
 case atStart => exact ⟨(([] : List (S29))), (0), rs_, H', ⟨Nat.le_refl _⟩, ⟨by first | exact Kd.S_nil _ _ _ _ _ | exact Kd.N_nil _ _ _ _ _ | exact Kd.V_nil _ _ _ _ _ | exact Kd.Q_nil _ _ _ _ _ | exact Kd.R_nil _ _ _ _ _⟩, ⟨(bw HB)⟩⟩
 case round =>
  clear H'
  obtain ⟨x3_1, x8_1, rfl, HA, HK1, HO_3, HB⟩ := hrel
  cases gk with
  | zero => exact absurd HA.out (by simp [impl_copyAlarms.l0])
  | succ k1 =>
   have H := HA.out
   clear HA
   simp only [impl_copyAlarms.l0] at H
   by_cases c2 : x8_1 < (l0.length : Int)
   ·rw [if_pos c2] at H; have c2b0 : decide (x8_1 < (l0.length : Int)) = true := decide_eq_true c2; clear c2
    by_cases c3 : 0 ≤ x8_1
    ·rw [if_pos c3] at H; have c3b0 : decide (0 ≤ x8_1) = true := decide_eq_true c3; clear c3
     by_cases c4 : x8_1 < (l0.length : Int)
     ·rw [if_pos c4] at H; have c4b0 : decide (x8_1 < (l0.length : Int)) = true := decide_eq_true c4; clear c4; replace H := bs_ H
      obtain ⟨⟨t523, t526, t527, t528⟩, A50, H⟩ := H
      try dsimp only at H
      have A5 := aM A50
      clear A50
      by_cases c6 : x3_1.length < 2513169434916
      ·rw [if_pos c6] at H
       have LMc6 := aM c6
       clear c6
       obtain ⟨y529, hy529⟩ : ∃ y_ : List (S29), y_ = (x3_1 ++ [(⟨t523, t526, t527, t528⟩ : S29)]) := ⟨_, rfl⟩
       replace H : (impl_copyAlarms.l0 k1 y529 l0 (l0.length : Int) (wrap64 (x8_1 + 1))) = some r := by first | (rw [hy529]; exact H) | exact H
       have Ny529 := aM hy529
       clear hy529
       have H' := aM H
       clear H
       have p521 : 0 ≤ (x8_1 : Int) := of_decide_eq_true as_
       have q521 : x8_1 < (l0.length : Int) := of_decide_eq_true as_
       obtain ⟨ad521, A521_0, c521_0, e521, hx521_0, hx521_1, hx521_2, hx521_3, hl521_0, hi521_0⟩ := at_T29 HR0.out x8_1 p521 q521
       cases e521
       replace hx521_0 := cb HB hx521_0
       replace hx521_1 := cb HB hx521_1
       replace hx521_2 := cb HB hx521_2
       replace hx521_3 := cb HB hx521_3
       have HR521_0 := aM hi521_0
       have HC521_0 := aM hl521_0
       clear hi521_0 hl521_0
       replace p521 := eq_true p521
       replace q521 := eq_true q521
       go_wp2_with (first | (refine be_ 5 #[.slice none 0 0, .int .i64 0, .int .i64 0, .string (⟨#[]⟩ : ByteArray)] 29 ?_; intro gb522 hg w7 hbox hb; replace HO_3 := aM (Kd.S_below (Kd.S_elderB (sS HO_3.out) gb522 (Nat.le_of_eq hg.symm)) hb); have BK522 := aM (hbox); have GW522 := gw hg (bw HB); have GE522 := gw hg (bw HB); replace HB := aM (below_step (bw HB) hb); clear hb hbox hg; obtain ⟨hcz8_0, hcz8_1, hcz8_2, hcz8_3⟩ := zc4 BK522; have hfz8_0 := zf BK522) | (refine gl_ (some 14) Try.func29 #[.agg #[.slice A521_0 ((rd_T29 l0 x8_1).f0).length c521_0, .int .i64 ((rd_T29 l0 x8_1).f1), .int .i64 ((rd_T29 l0 x8_1).f2), .string ((rd_T29 l0 x8_1).f3)]] ?_; (with_reducible refine (impl_copyAlarm.calls _ _ ((rd_T29 l0 x8_1).f0) ((rd_T29 l0 x8_1).f1) ((rd_T29 l0 x8_1).f2) ((rd_T29 l0 x8_1).f3) t523 t526 t527 t528 _ ?side1 ?side2 A5.out).mono ?_); (case side1 => exact Kd.C_below HR521_0.out (bw HB)); (case side2 => exact HC521_0.out); rintro e w9 ⟨v524, rfl, ho0, hb⟩; refine ⟨_, rfl, ?_⟩; replace HO_3 := aM (Kd.S_elder' (by (with_reducible repeat (first | apply Kd.S_alloc | apply Kd.S_drewN | apply Kd.S_drew)); exact (Kd.S_mono (Kd.S_far (p := ⟨gb522, 3, none⟩) (Kd.S_far (p := ⟨gb522, 2, none⟩) (Kd.S_far (p := ⟨gb522, 1, none⟩) (Kd.S_far (p := ⟨gb522, 0, none⟩) (Kd.S_mono HO_3.out (fun k_ hk => (⟨hk, hk.2⟩ : _ ∧ k_ ≠ gb522))) (fun _ hk => hk.2) (.slice A521_0 ((rd_T29 l0 x8_1).f0).length c521_0)) (fun _ hk => hk.2) (.int .i64 ((rd_T29 l0 x8_1).f1))) (fun _ hk => hk.2) (.int .i64 ((rd_T29 l0 x8_1).f2))) (fun _ hk => hk.2) (.string ((rd_T29 l0 x8_1).f3))) (fun _ h_ => h_.1))) (Kd.R_base ho0) hb); have HO525 := aM (Kd.R_lower ho0 (below_size (bw HB))); replace BK522 := aM (blk_below (g := gb522) (o := .cells #[.slice A521_0 ((rd_T29 l0 x8_1).f0).length c521_0, .int .i64 ((rd_T29 l0 x8_1).f1), .int .i64 ((rd_T29 l0 x8_1).f2), .string ((rd_T29 l0 x8_1).f3)] 29 (0, 0)) (by refine blk_put (cs := #[.slice A521_0 ((rd_T29 l0 x8_1).f0).length c521_0, .int .i64 ((rd_T29 l0 x8_1).f1), .int .i64 ((rd_T29 l0 x8_1).f2), .string (⟨#[]⟩ : ByteArray)]) ?_ 3 _ rfl; refine blk_put (cs := #[.slice A521_0 ((rd_T29 l0 x8_1).f0).length c521_0, .int .i64 ((rd_T29 l0 x8_1).f1), .int .i64 0, .string (⟨#[]⟩ : ByteArray)]) ?_ 2 _ rfl; refine blk_put (cs := #[.slice A521_0 ((rd_T29 l0 x8_1).f0).length c521_0, .int .i64 0, .int .i64 0, .string (⟨#[]⟩ : ByteArray)]) ?_ 1 _ rfl; refine blk_put (cs := #[.slice none 0 0, .int .i64 0, .int .i64 0, .string (⟨#[]⟩ : ByteArray)]) ?_ 0 _ rfl; exact aB BK522) hb); replace HB := aM (below_step (bw HB) hb); (try clear hb); (try clear hb2); (try clear hk); (try clear hi); (try clear ho0); obtain ⟨Ao11, co11, eo11⟩ := Kd.R_slice HO525.out; subst eo11) | ((with_reducible refine gate_builtin (b := .append) (xs := #[.tmp 12, .tmp 15]) rfl ?_); at_builtin; refine Kd.S_append k29 (w0 := w) w.heap.size rfl (.tmp 12) (.tmp 15) 24 29 (.agg #[(.slice none 0 0), (.int .i64 0), (.int .i64 0), (.string ⟨#[]⟩)]) 56 rfl Try.underlying24 info29 rfl (by decide) (by omega) u3 x3_1 (⟨t523, t526, t527, t528⟩ : S29) [.slice Ao11 t523.length co11, .int .i64 t526, .int .i64 t527, .string t528] (fun k_ => k_ ≠ gb522) (fun k_ => some k_ = (.slice Ao11 t523.length co11 : Value).ownBlock) rfl rfl ?aP (fun k_ hk_ => ((Kd.R_mono (ok' := fun k_ => ((fun k_ => k_ ≠ gb522)) k_ ∧ some k_ ≠ (u3 : Value).ownBlock) (Kd.R_types (Kd.R_apart' (HO525.out) (Kd.S_typed HO_3.out) (by decide)) BK522.out (by decide)) (fun k_ hk => ⟨hk.2, hk.1.2⟩))).1 k_ hk_.symm) ?aF ?aO ?aB ?aS ?aL ?_; (case aP => exact k29_mkM _ _ _ (⟨t523, t526, t527, t528⟩ : S29) (Kd.R_mono (Kd.R_tight rfl (Kd.R_mono (ok' := fun k_ => ((fun k_ => k_ ≠ gb522)) k_ ∧ some k_ ≠ (u3 : Value).ownBlock) (Kd.R_types (Kd.R_apart' (HO525.out) (Kd.S_typed HO_3.out) (by decide)) BK522.out (by decide)) (fun k_ hk => ⟨hk.2, hk.1.2⟩))) (fun _ h_ => h_))); (case aB => exact (bw HB)); (case aF => exact (fun k_ hk => Kd.freshB (g := gb522) (aB BK522) k_ hk)); (case aO => exact (by (with_reducible repeat (first | apply Kd.S_alloc | apply Kd.S_drewN | apply Kd.S_drew)); exact Kd.S_mono HO_3.out (fun k_ hk => ⟨hk.1.2, fun e_ => hk.2 e_⟩))); (case aS => exact (below_size (bw HB))); (case aL => have := LMc6.out; omega); intro v530 w10 ho hb hg hat; rw [← Ny529.out] at ho; replace BK522 := aM (blk_grown (g := gb522) (aB BK522) hg (Kd.S_away HO_3.out (fun _ hk => hk.1.2))); replace HB := aM (hb); have HO531 := aM (ho); clear HO_3 HO525 ho hb hg hat))
       go_roundg k1
       case measure => have := HK1.out; omega
       case rel => exact ⟨(y529), (wrap64 (x8_1 + 1)), rs_, H', ⟨by have := HK1.out; omega⟩, ⟨by (with_reducible repeat (first | apply Kd.S_alloc | apply Kd.S_drewN | apply Kd.S_drew)); exact Kd.S_mono HO531.out (fun _ hk => trivial)⟩, ⟨(bw HB)⟩⟩
      ·rw [if_neg c6] at H
       exact absurd H (by simp)
     ·rw [if_neg c4] at H
      exact absurd H (by simp)
    ·rw [if_neg c3] at H
     exact absurd H (by simp)
   ·rw [if_neg c2] at H; have c2b0 : decide (x8_1 < (l0.length : Int)) = false := decide_eq_false c2; clear c2
    obtain rfl := Option.some.inj H
    go_wp2
    go_ret
    exact ⟨_, er, by (with_reducible repeat (first | apply Kd.S_alloc | apply Kd.S_drewN | apply Kd.S_drew)); exact HO_3.out, (bw HB)⟩

/-! ### impl_copyChain: function 28 -/
def impl_copyChain.f (k : Nat) (a0_0 : Int) (l0_1 : List (S29)) : Option (Int × (List (S29))) := (impl_copyAlarms.f k l0_1).bind fun t534 => (some (a0_0, t534))
theorem impl_copyChain.calls (k : Nat) (a0_0 : Int) (A0_1 : Option Addr) (c0_1 : Nat) (l0_1 : List (S29)) (r1 : Int) (r2 : List (S29)) (w : World) (hr0_1 : Kd.C k29 w A0_1 l0_1.length l0_1) (hc0_1 : l0_1.length ≤ c0_1) (h : impl_copyChain.f k a0_0 l0_1 = some (r1, r2)) :
  Calls Try.prog 28 #[.agg #[.int .i64 a0_0, .slice A0_1 l0_1.length c0_1]] w fun e w' => ∃ v1_ : Value, e = .returned (.agg #[.int .i64 r1, v1_]) ∧ Kd.S k29 29 w' w.heap.size (fun _ => True) v1_ r2 ∧ Below w.heap.size w w' := by
 have hu26 := Try.underlying26
 have HR0_1 := aM hr0_1
 have HC0_1 := aM hc0_1
 clear hr0_1 hc0_1
 have HB := aM (Below.refl w.heap.size w)
 have H : ((impl_copyAlarms.f k l0_1).bind fun t534 => (some (a0_0, t534))) = some (r1, r2) := h
 clear h; replace H := bs_ H; obtain ⟨t534, A20, H⟩ := H; try dsimp only at H
 have A2 := aM A20
 clear A20
 simp only [Option.some.injEq, Prod.mk.injEq] at H
 obtain ⟨rfl, rfl⟩ := H
 go_enter Try.func28, Try.ntmps28
 try go_wp2_with (first | (refine be_ 1 #[.int .i64 a0_0, .slice A0_1 l0_1.length c0_1] 26 ?_; intro gb532 hg w3 hbox hb; have BK532 := aM (hbox); have GW532 := gw hg (bw HB); have GE532 := gw hg (bw HB); replace HB := aM (below_step (bw HB) hb); clear hb hbox hg) | (refine be_ 2 #[.int .i64 0, .slice none 0 0] 26 ?_; intro gb533 hg w4 hbox hb; have BK533 := aM (hbox); have GW533 := gw hg (bw HB); have GE533 := gw hg (bw HB); replace HB := aM (below_step (bw HB) hb); have NB532_533 := nb1 hg BK532; have NB533_532 := nb2 hg BK532; replace BK532 := bb BK532 hb; clear hb hbox hg))
 replace BK532 := aM (blk_drew BK532.out)
 replace BK533 := aM (blk_drew BK533.out)
 replace HB := aM (below_drew1 HB.out)
 refine start_ (n := 7) (S := fun w' => w'.cell? ⟨gb532, 0, none⟩ = some (.int .i64 a0_0) ∧ w'.cell? ⟨gb532, 1, none⟩ = some (.slice A0_1 l0_1.length c0_1)) (ds := []) (bz 7 0) (by kernel_rfl) rfl (by kernel_rfl) ⟨(blk_cell BK532.out 0).trans rfl, (blk_cell BK532.out 1).trans rfl⟩ (fun hHeld => ?_)
 generalize w4.drew = w5 at BK532 BK533 HB hHeld ⊢
 refine pA_ 0 (some 3) (bz 7 1) ?_ ?_ ?_ ?_ ?_
 rotate_left
 ·intro w'
  go_simp
  with_reducible rfl
 rotate_left
 ·simp only [u6_]
  rfl
 refine pA_ 2 (some 5) (bz 7 5) ?_ ?_ ?_ ?_ ?_
 rotate_left
 ·intro w'
  go_simp
  with_reducible rfl
 rotate_left
 ·simp only [u6_]
  rfl
 refine tA_ 1 (some 4) (bz 7 7) ?_ ?_ hHeld ?_ ?_ ?_
 rotate_left
 ·rintro w' ⟨s0, s1⟩
  go_simp
  with_reducible rfl
 rotate_left
 ·simp only [u6_]
  rfl
 refine tA_ 3 (some 6) (bz 7 15) ?_ ?_ hHeld ?_ ?_ ?_
 rotate_left
 ·rintro w' ⟨s0, s1⟩
  go_simp
  with_reducible rfl
 rotate_left
 ·simp only [u6_]
  rfl
 refine one_ (i := 4) (N := some 7) (bz 7 31) rfl rfl (by kernel_rfl) (by decide) (fun K hK => ?_)
 refine goes_ Try.func52 (by kernel_rfl) rfl #[.slice A0_1 l0_1.length c0_1] (by rfl) rfl rfl mp ?_
 with_reducible refine (impl_copyAlarms.calls k _ _ l0_1 t534 _ ?side1 ?side2 A2.out).mono ?_
 (case side1 => exact cA (Kd.C_below HR0_1.out HB.out))
 (case side2 => exact HC0_1.out)
 rintro e w6 ⟨v535, rfl, ho0, hb⟩
 refine ⟨_, rfl, ?_⟩
 have HO536 := aM (Kd.S_lower ho0 (below_size (bw HB)))
 replace BK532 := bb BK532 hb
 replace BK533 := bb BK533 hb
 replace HB := aM (below_step (bw HB) hb)
 (try clear hb)
 (try clear hb2)
 (try clear hk)
 (try clear hi)
 (try clear ho0)
 obtain ⟨Ao7, co7, eo7⟩ := Kd.S_slice HO536.out
 (first | subst eo7 | (injection eo7 with f1_ f2_ f3_; have f4_ := f1_.symm; have f5_ := f3_.symm; clear f1_ f2_ f3_; subst f4_; subst f5_))
 refine hK.out _ _ ⟨(blk_cell BK532.out 0).trans rfl, (blk_cell BK532.out 1).trans rfl⟩ (fun hHeld => ?_)
 clear hK K
 refine norm_ (a' := ?_) ?_ ?_
 rotate_left
 ·show Act.put _ (some 7) _ = _
  simp only [u6_]
  rfl
 refine pA_ 5 (some 8) (bz 7 63) ?_ ?_ ?_ ?_ ?_
 rotate_left
 ·intro w'
  go_simp
  with_reducible rfl
 rotate_left
 ·simp only [u6_]
  rfl
 refine one_ (i := 6) (N := none) (bz 7 127) rfl rfl (by kernel_rfl) (by decide) (fun K hK => ?_)
 have hs8 : w6.cell? ⟨gb533, 0, none⟩ = some (.int .i64 0) := (blk_cell BK533.out 0).trans rfl
 have hfs8 := blk_frozen BK533.out 0
 have hns8_0 := NB532_533.out
 have hms8_0 := NB533_532.out
 have hs9 : w6.cell? ⟨gb533, 1, none⟩ = some (.slice none 0 0) := (blk_cell BK533.out 1).trans rfl
 have hfs9 := blk_frozen BK533.out 1
 have hns9_0 := NB532_533.out
 have hms9_0 := NB533_532.out
 refine skip_ (w1 := ?_) (by rfl) rfl ?_ ?_
 rotate_left
 ·go_simp
  rfl
 refine hK.out _ _ ⟨((cell_far (p := ⟨gb533, _, none⟩) NB532_533.out _).trans (((cell_far (p := ⟨gb533, _, none⟩) NB532_533.out _).trans (hHeld.1)))), ((cell_far (p := ⟨gb533, _, none⟩) NB532_533.out _).trans (((cell_far (p := ⟨gb533, _, none⟩) NB532_533.out _).trans (hHeld.2))))⟩ (fun hHeld => ?_)
 clear hK K
 refine done_ (by kernel_rfl) ?_
 try go_wp2
 refine bodyPost_ret (results_cell_row rfl _ _ gb533 26 #[.int .i64 a0_0, .slice Ao7 t534.length co7] (0, 0) _ rfl (by refine blk_put (cs := #[.int .i64 a0_0, .slice none 0 0]) ?_ 1 _ rfl; refine blk_put (cs := #[.int .i64 0, .slice none 0 0]) ?_ 0 _ rfl; exact aB BK533) Try.underlying26 rfl (by kernel_rfl)) rfl ?_
 exact ⟨_, er, by (with_reducible repeat (first | apply Kd.S_alloc | apply Kd.S_drewN | apply Kd.S_drew)); exact Kd.S_mono (Kd.S_far (p := ⟨gb533, 1, none⟩) (Kd.S_far (p := ⟨gb533, 0, none⟩) (Kd.S_types HO536.out BK533.out (by decide)) (fun _ hk => hk.2) (.int .i64 a0_0)) (fun _ hk => hk.2) (.slice Ao7 t534.length co7)) (fun _ hk => trivial), (bw HB)⟩

end Go.Proofs.Ytdhignbneeapiaa.PFnChains
