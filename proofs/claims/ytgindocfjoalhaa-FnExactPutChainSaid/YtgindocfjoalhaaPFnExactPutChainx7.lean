/- What the Go functions that FnExactPutChain reaches compute, as Lean functions, and that the machine's calls do so; no conditions. -/
import Derived.Test.YtgindocfjoalhaaPFnExactPutChainx0
import Derived.Test.YtgindocfjoalhaaPFnExactPutChainx1
namespace Go.Proofs.Ytgindocfjoalhaa.PFnExactPutChain
open Go.RowKit Go.Proofs.YtgindocfjoalhaaW.PrintWords Go.Proofs.YtgindocfjoalhaaW.PrintLast Go.Proofs.YtgindocfjoalhaaW.PrintMore
attribute [local go_sem] max2_int min2_int max_two min_two max_three min_three max_four min_four   -- for this text's walks alone
set_option linter.unusedVariables false
set_option linter.unusedSimpArgs false

attribute [local go_sem high] eqA89
/-! ### impl_Touch: function 15 -/
def impl_Touch.f (l0_0 : List (S89)) (a0_1 : Int) (a0_2 : Int) (a0_3 : ByteArray) (l1_0 : List (S89)) (a1_1 : Int) (a1_2 : Int) (a1_3 : ByteArray) : Option (Bool) := if a0_1 ≤ a1_2 then (some (decide (a1_1 ≤ a0_2))) else (some false)
set_option maxHeartbeats 8000000 in
set_option maxRecDepth 100000 in
theorem impl_Touch.calls (A0_0 : Option Addr) (c0_0 : Nat) (l0_0 : List (S89)) (a0_1 : Int) (a0_2 : Int) (a0_3 : ByteArray) (A1_0 : Option Addr) (c1_0 : Nat) (l1_0 : List (S89)) (a1_1 : Int) (a1_2 : Int) (a1_3 : ByteArray) (r : Bool) (w : World) (hr0_0 : Kd.C k89 w A0_0 l0_0.length l0_0) (hc0_0 : l0_0.length ≤ c0_0) (hr1_0 : Kd.C k89 w A1_0 l1_0.length l1_0) (hc1_0 : l1_0.length ≤ c1_0) (h : impl_Touch.f l0_0 a0_1 a0_2 a0_3 l1_0 a1_1 a1_2 a1_3 = some r) :
  Calls Try.prog 15 #[.agg #[.slice A0_0 l0_0.length c0_0, .int .i64 a0_1, .int .i64 a0_2, .string a0_3], .agg #[.slice A1_0 l1_0.length c1_0, .int .i64 a1_1, .int .i64 a1_2, .string a1_3]] w fun e w' => e = .returned (.bool r) ∧ Below w.heap.size w w' := by
 have hu26 := Try.underlying26
 have HR0_0 := aM hr0_0
 have HC0_0 := aM hc0_0
 clear hr0_0 hc0_0
 have HR1_0 := aM hr1_0
 have HC1_0 := aM hc1_0
 clear hr1_0 hc1_0
 have HB := aM (Below.refl w.heap.size w)
 have H : (if a0_1 ≤ a1_2 then (some (decide (a1_1 ≤ a0_2))) else (some false)) = some r := h
 clear h
 by_cases c3 : a0_1 ≤ a1_2
 ·rw [if_pos c3] at H; have c3b0 : decide (a0_1 ≤ a1_2) = true := decide_eq_true c3; clear c3
  obtain rfl := Option.some.inj H
  go_enter Try.func15, Try.ntmps15
  go_wp2_with (first | ((with_reducible refine gate_dst (N := 2) rfl ?_); refine box_event ?hg (N := 2) ?hd (cs := #[.slice A0_0 l0_0.length c0_0, .int .i64 a0_1, .int .i64 a0_2, .string a0_3]) (t := 26) ?hr ?_; (case hd => rfl); (case hg => rfl); (case hr => first | (go_simp; done) | (go_simp; rfl)); intro gb252 hg w4 hbox hb; have n0_ := aM (below_step (by repeat (first | (with_reducible first | exact HB.out | apply aW1 | apply aW2 | apply aW3) | exact HB.out)) hb); have n1_ := aM (hbox); have n2_ := aM ((by rw [hg]; exact (below_size (by repeat (first | (with_reducible first | exact HB.out | apply aW1 | apply aW2 | apply aW3) | exact HB.out))) : w.heap.size ≤ gb252)); have n3_ := aM ((by rw [hg]; exact (below_size (by repeat (first | (with_reducible first | exact HB.out | apply aW1 | apply aW2 | apply aW3) | exact HB.out))) : w.heap.size ≤ gb252)); clear HB; have HB := n0_; have BK252 := n1_; have GW252 := n2_; have GE252 := n3_; clear n0_ n1_ n2_ n3_ hb hbox hg) | ((with_reducible refine gate_dst (N := 3) rfl ?_); refine box_event ?hg (N := 3) ?hd (cs := #[.slice A1_0 l1_0.length c1_0, .int .i64 a1_1, .int .i64 a1_2, .string a1_3]) (t := 26) ?hr ?_; (case hd => rfl); (case hg => rfl); (case hr => first | (go_simp; done) | (go_simp; rfl)); intro gb253 hg w5 hbox hb; have n0_ := bb BK252 hb; have n1_ := aM (below_step (by repeat (first | (with_reducible first | exact HB.out | apply aW1 | apply aW2 | apply aW3 | refine below_set ?_ GE252.out) | exact HB.out)) hb); have n2_ := aM (hbox); have n3_ := aM ((by rw [hg]; exact (below_size (by repeat (first | (with_reducible first | exact HB.out | apply aW1 | apply aW2 | apply aW3 | refine below_set ?_ GE252.out) | exact HB.out))) : w.heap.size ≤ gb253)); have n4_ := aM ((by rw [hg]; exact (below_size (by repeat (first | (with_reducible first | exact HB.out | apply aW1 | apply aW2 | apply aW3 | refine below_set ?_ GE252.out) | exact HB.out))) : w.heap.size ≤ gb253)); have n5_ := aM ((by rw [hg]; exact Nat.ne_of_lt (blk_lt (g := gb252) (aB BK252)) : gb252 ≠ gb253)); have n6_ := aM ((by rw [hg]; exact Nat.ne_of_gt (blk_lt (g := gb252) (aB BK252)) : gb253 ≠ gb252)); clear BK252 HB; have BK252 := n0_; have HB := n1_; have BK253 := n2_; have GW253 := n3_; have GE253 := n4_; have NB252_253 := n5_; have NB253_252 := n6_; clear n0_ n1_ n2_ n3_ n4_ n5_ n6_ hb hbox hg; have hnb6 := NB252_253.out; have hnc6 := NB253_252.out; have hcz7_0 := cz4_0 BK252; have hcz7_1 := cz4_1 BK252; have hcz7_2 := cz4_2 BK252; have hcz7_3 := cz4_3 BK252; have hfz7_0 := blk_frozen BK252.out 0; have hfz7_1 := blk_frozen BK252.out 1; have hfz7_2 := blk_frozen BK252.out 2; have hfz7_3 := blk_frozen BK252.out 3; have hcz8_0 := cz4_0 BK253; have hcz8_1 := cz4_1 BK253; have hcz8_2 := cz4_2 BK253; have hcz8_3 := cz4_3 BK253; have hfz8_0 := blk_frozen BK253.out 0; have hfz8_1 := blk_frozen BK253.out 1; have hfz8_2 := blk_frozen BK253.out 2; have hfz8_3 := blk_frozen BK253.out 3))
  go_ret
  exact ⟨by first | rfl | (simp [errW_none, errW_some] <;> rfl) | (simp [*, errW_none, errW_some] <;> rfl), by repeat (first | (with_reducible first | exact HB.out | apply aW1 | apply aW2 | apply aW3 | refine below_set ?_ GE252.out | refine below_set ?_ GE253.out) | exact HB.out)⟩
 ·rw [if_neg c3] at H; have c3b0 : decide (a0_1 ≤ a1_2) = false := decide_eq_false c3; clear c3
  obtain rfl := Option.some.inj H
  go_enter Try.func15, Try.ntmps15
  go_wp2_with (first | ((with_reducible refine gate_dst (N := 2) rfl ?_); refine box_event ?hg (N := 2) ?hd (cs := #[.slice A0_0 l0_0.length c0_0, .int .i64 a0_1, .int .i64 a0_2, .string a0_3]) (t := 26) ?hr ?_; (case hd => rfl); (case hg => rfl); (case hr => first | (go_simp; done) | (go_simp; rfl)); intro gb252 hg w9 hbox hb; have n0_ := aM (below_step (by repeat (first | (with_reducible first | exact HB.out | apply aW1 | apply aW2 | apply aW3) | exact HB.out)) hb); have n1_ := aM (hbox); have n2_ := aM ((by rw [hg]; exact (below_size (by repeat (first | (with_reducible first | exact HB.out | apply aW1 | apply aW2 | apply aW3) | exact HB.out))) : w.heap.size ≤ gb252)); have n3_ := aM ((by rw [hg]; exact (below_size (by repeat (first | (with_reducible first | exact HB.out | apply aW1 | apply aW2 | apply aW3) | exact HB.out))) : w.heap.size ≤ gb252)); clear HB; have HB := n0_; have BK252 := n1_; have GW252 := n2_; have GE252 := n3_; clear n0_ n1_ n2_ n3_ hb hbox hg) | ((with_reducible refine gate_dst (N := 3) rfl ?_); refine box_event ?hg (N := 3) ?hd (cs := #[.slice A1_0 l1_0.length c1_0, .int .i64 a1_1, .int .i64 a1_2, .string a1_3]) (t := 26) ?hr ?_; (case hd => rfl); (case hg => rfl); (case hr => first | (go_simp; done) | (go_simp; rfl)); intro gb253 hg w10 hbox hb; have n0_ := bb BK252 hb; have n1_ := aM (below_step (by repeat (first | (with_reducible first | exact HB.out | apply aW1 | apply aW2 | apply aW3 | refine below_set ?_ GE252.out) | exact HB.out)) hb); have n2_ := aM (hbox); have n3_ := aM ((by rw [hg]; exact (below_size (by repeat (first | (with_reducible first | exact HB.out | apply aW1 | apply aW2 | apply aW3 | refine below_set ?_ GE252.out) | exact HB.out))) : w.heap.size ≤ gb253)); have n4_ := aM ((by rw [hg]; exact (below_size (by repeat (first | (with_reducible first | exact HB.out | apply aW1 | apply aW2 | apply aW3 | refine below_set ?_ GE252.out) | exact HB.out))) : w.heap.size ≤ gb253)); have n5_ := aM ((by rw [hg]; exact Nat.ne_of_lt (blk_lt (g := gb252) (aB BK252)) : gb252 ≠ gb253)); have n6_ := aM ((by rw [hg]; exact Nat.ne_of_gt (blk_lt (g := gb252) (aB BK252)) : gb253 ≠ gb252)); clear BK252 HB; have BK252 := n0_; have HB := n1_; have BK253 := n2_; have GW253 := n3_; have GE253 := n4_; have NB252_253 := n5_; have NB253_252 := n6_; clear n0_ n1_ n2_ n3_ n4_ n5_ n6_ hb hbox hg; have hnb11 := NB252_253.out; have hnc11 := NB253_252.out; have hcz12_0 := cz4_0 BK252; have hcz12_1 := cz4_1 BK252; have hcz12_2 := cz4_2 BK252; have hcz12_3 := cz4_3 BK252; have hfz12_0 := blk_frozen BK252.out 0; have hfz12_1 := blk_frozen BK252.out 1; have hfz12_2 := blk_frozen BK252.out 2; have hfz12_3 := blk_frozen BK252.out 3; have hcz13_0 := cz4_0 BK253; have hcz13_1 := cz4_1 BK253; have hcz13_2 := cz4_2 BK253; have hcz13_3 := cz4_3 BK253; have hfz13_0 := blk_frozen BK253.out 0; have hfz13_1 := blk_frozen BK253.out 1; have hfz13_2 := blk_frozen BK253.out 2; have hfz13_3 := blk_frozen BK253.out 3))
  go_ret
  exact ⟨by first | rfl | (simp [errW_none, errW_some] <;> rfl) | (simp [*, errW_none, errW_some] <;> rfl), by repeat (first | (with_reducible first | exact HB.out | apply aW1 | apply aW2 | apply aW3 | refine below_set ?_ GE252.out | refine below_set ?_ GE253.out) | exact HB.out)⟩

/-! ### impl_copySet: function 87 (a contract of the shelf) -/
def impl_copySet.f (l0 : List (S89)) : Option (List (S89)) := if l0.length < 4398046511104 then some l0 else none
set_option maxHeartbeats 8000000 in
set_option maxRecDepth 100000 in
theorem impl_copySet.calls (A0 : Option Addr) (c0 : Nat) (l0 : List (S89)) (r : List (S89)) (w : World) (hr0 : Kd.C k89 w A0 l0.length l0) (hc0 : l0.length ≤ c0) (h : impl_copySet.f l0 = some r) :
  Calls Try.prog 87 #[.slice A0 l0.length c0] w fun e w' => ∃ v0_ : Value, e = .returned (v0_) ∧ Kd.R k89 89 w' w.heap.size (fun _ => True) v0_ r ∧ Below w.heap.size w w' := by
 have HR0 := aM hr0
 have HC0 := aM hc0
 clear hr0 hc0
 have HB := aM (Below.refl w.heap.size w)
 unfold impl_copySet.f at h
 by_cases c2 : l0.length < 4398046511104
 ·rw [if_pos c2] at h
  have LM := aM c2
  clear c2
  obtain rfl := Option.some.inj h
  clear h
  go_enter Try.func87, Try.ntmps87
  go_wp2_with (first | ((with_reducible refine gate_builtin (b := .append) (xs := #[.const (.slice none 0 0), .tmp 3]) rfl ?_); at_builtin; refine Kd.R_append_rows k89 (w0 := w) w.heap.size rfl (.const (.slice none 0 0)) (.tmp 3) 24 89 (.agg #[(.string ⟨#[]⟩), (.string ⟨#[]⟩)]) 32 rfl Try.underlying24 (by kernel_rfl) rfl (by decide) (by omega) (.slice none 0 0) [] l0 _ _ _ (fun _ => True) (fun _ => False) rfl rfl ?aO ?aR (fun _ _ h => h) (fun _ h => h.elim) ?aF ?aB ?aS ?aL ?_; (case aR => repeat (first | exact (Kd.C_below HR0.out HB.out) | (with_reducible refine Kd.C_alloc ?_ _) | (with_reducible refine Kd.C_drewN ?_ _) | (with_reducible refine Kd.C_drew ?_))); (case aB => exact (by repeat (first | (with_reducible first | exact HB.out | apply aW1 | apply aW2 | apply aW3) | exact HB.out))); (case aF => exact (fun _ _ => trivial)); (case aO => exact Kd.R_nil _ _ _ _ _); (case aS => exact (below_size (by repeat (first | (with_reducible first | exact HB.out | apply aW1 | apply aW2 | apply aW3) | exact HB.out)))); (case aL => have := LM.out; simp; omega); intro v123 w9 ho hb hg hat; rw [List.nil_append] at ho; have n2_ := aM (hb); have n3_ := aM (ho); clear HB; have HB := n2_; have HO := n3_; clear n2_ n3_ ho hb hg hat))
  go_ret
  exact ⟨_, rfl, by (with_reducible repeat (first | apply aR1 | apply aR2 | apply aR3)); exact HO.out, by repeat (first | (with_reducible first | exact HB.out | apply aW1 | apply aW2 | apply aW3) | exact HB.out)⟩
 ·rw [if_neg c2] at h
  exact absurd h (by simp)

/-! ### impl_copyAlarm: function 57 -/
def impl_copyAlarm.f (l0_0 : List (S89)) (a0_1 : Int) (a0_2 : Int) (a0_3 : ByteArray) : Option ((List (S89)) × Int × Int × ByteArray) := (impl_copySet.f l0_0).bind fun t256 => (some (t256, a0_1, a0_2, a0_3))
set_option maxHeartbeats 8000000 in
set_option maxRecDepth 100000 in
theorem impl_copyAlarm.calls (A0_0 : Option Addr) (c0_0 : Nat) (l0_0 : List (S89)) (a0_1 : Int) (a0_2 : Int) (a0_3 : ByteArray) (r1 : List (S89)) (r2 : Int) (r3 : Int) (r4 : ByteArray) (w : World) (hr0_0 : Kd.C k89 w A0_0 l0_0.length l0_0) (hc0_0 : l0_0.length ≤ c0_0) (h : impl_copyAlarm.f l0_0 a0_1 a0_2 a0_3 = some (r1, r2, r3, r4)) :
  Calls Try.prog 57 #[.agg #[.slice A0_0 l0_0.length c0_0, .int .i64 a0_1, .int .i64 a0_2, .string a0_3]] w fun e w' => ∃ v0_ : Value, e = .returned (.agg #[v0_, .int .i64 r2, .int .i64 r3, .string r4]) ∧ Kd.R k89 89 w' w.heap.size (fun _ => True) v0_ r1 ∧ Below w.heap.size w w' := by
 have hu26 := Try.underlying26
 have HR0_0 := aM hr0_0
 have HC0_0 := aM hc0_0
 clear hr0_0 hc0_0
 have HB := aM (Below.refl w.heap.size w)
 have H : ((impl_copySet.f l0_0).bind fun t256 => (some (t256, a0_1, a0_2, a0_3))) = some (r1, r2, r3, r4) := h
 clear h; replace H := Option.bind_eq_some_iff.mp H; obtain ⟨t256, A20, H⟩ := H; try dsimp only at H
 have A2 := aM A20
 clear A20
 simp only [Option.some.injEq, Prod.mk.injEq] at H
 obtain ⟨rfl, rfl, rfl, rfl⟩ := H
 go_enter Try.func57, Try.ntmps57
 go_wp2_with (first | ((with_reducible refine gate_dst (N := 1) rfl ?_); refine box_event ?hg (N := 1) ?hd (cs := #[.slice A0_0 l0_0.length c0_0, .int .i64 a0_1, .int .i64 a0_2, .string a0_3]) (t := 26) ?hr ?_; (case hd => rfl); (case hg => rfl); (case hr => first | (go_simp; done) | (go_simp; rfl)); intro gb254 hg w3 hbox hb; have n0_ := aM (below_step (by repeat (first | (with_reducible first | exact HB.out | apply aW1 | apply aW2 | apply aW3) | exact HB.out)) hb); have n1_ := aM (hbox); have n2_ := aM ((by rw [hg]; exact (below_size (by repeat (first | (with_reducible first | exact HB.out | apply aW1 | apply aW2 | apply aW3) | exact HB.out))) : w.heap.size ≤ gb254)); have n3_ := aM ((by rw [hg]; exact (below_size (by repeat (first | (with_reducible first | exact HB.out | apply aW1 | apply aW2 | apply aW3) | exact HB.out))) : w.heap.size ≤ gb254)); clear HB; have HB := n0_; have BK254 := n1_; have GW254 := n2_; have GE254 := n3_; clear n0_ n1_ n2_ n3_ hb hbox hg) | ((with_reducible refine gate_dst (N := 2) rfl ?_); refine box_event ?hg (N := 2) ?hd (cs := #[.slice none 0 0, .int .i64 0, .int .i64 0, .string (⟨#[]⟩ : ByteArray)]) (t := 26) ?hr ?_; (case hd => rfl); (case hg => rfl); (case hr => first | (go_simp; done) | (go_simp; rfl)); intro gb255 hg w4 hbox hb; have n0_ := bb BK254 hb; have n1_ := aM (below_step (by repeat (first | (with_reducible first | exact HB.out | apply aW1 | apply aW2 | apply aW3 | refine below_set ?_ GE254.out) | exact HB.out)) hb); have n2_ := aM (hbox); have n3_ := aM ((by rw [hg]; exact (below_size (by repeat (first | (with_reducible first | exact HB.out | apply aW1 | apply aW2 | apply aW3 | refine below_set ?_ GE254.out) | exact HB.out))) : w.heap.size ≤ gb255)); have n4_ := aM ((by rw [hg]; exact (below_size (by repeat (first | (with_reducible first | exact HB.out | apply aW1 | apply aW2 | apply aW3 | refine below_set ?_ GE254.out) | exact HB.out))) : w.heap.size ≤ gb255)); have n5_ := aM ((by rw [hg]; exact Nat.ne_of_lt (blk_lt (g := gb254) (aB BK254)) : gb254 ≠ gb255)); have n6_ := aM ((by rw [hg]; exact Nat.ne_of_gt (blk_lt (g := gb254) (aB BK254)) : gb255 ≠ gb254)); clear BK254 HB; have BK254 := n0_; have HB := n1_; have BK255 := n2_; have GW255 := n3_; have GE255 := n4_; have NB254_255 := n5_; have NB255_254 := n6_; clear n0_ n1_ n2_ n3_ n4_ n5_ n6_ hb hbox hg; have hnb5 := NB254_255.out; have hnc5 := NB255_254.out; have hcz6_0 := cz4_0 BK254; have hcz6_1 := cz4_1 BK254; have hcz6_2 := cz4_2 BK254; have hcz6_3 := cz4_3 BK254; have hfz6_0 := blk_frozen BK254.out 0; have hfz6_1 := blk_frozen BK254.out 1; have hfz6_2 := blk_frozen BK254.out 2; have hfz6_3 := blk_frozen BK254.out 3) | ((with_reducible refine gate_callee (f := 87) rfl ?_); refine goesL_ (some 5) rfl rfl Try.func87 (by kernel_rfl) rfl #[.slice A0_0 l0_0.length c0_0] rfl (by (try simp only [List.map_toArray, List.map_cons, List.map_nil]); first | done | rfl | (simp only [List.length_drop, List.length_take]; rfl)) ?_; (with_reducible refine (impl_copySet.calls _ _ l0_0 t256 _ ?side1 ?side2 A2.out).mono ?_); (case side1 => repeat (first | exact (Kd.C_below HR0_0.out HB.out) | (with_reducible refine Kd.C_alloc ?_ _) | (with_reducible refine Kd.C_drewN ?_ _) | (with_reducible refine Kd.C_drew ?_))); (case side2 => exact HC0_0.out); rintro e w7 ⟨v257, rfl, ho0, hb⟩; refine ⟨_, rfl, ?_⟩; have n0_ := aM (Kd.R_lower ho0 (below_size (by repeat (first | (with_reducible first | exact HB.out | apply aW1 | apply aW2 | apply aW3 | refine below_set ?_ GE254.out | refine below_set ?_ GE255.out) | exact HB.out)))); have n1_ := bb BK254 hb; have n2_ := bb BK255 hb; have n3_ := aM (below_step (by repeat (first | (with_reducible first | exact HB.out | apply aW1 | apply aW2 | apply aW3 | refine below_set ?_ GE254.out | refine below_set ?_ GE255.out) | exact HB.out)) hb); clear BK254 BK255 HB; have HO258 := n0_; have BK254 := n1_; have BK255 := n2_; have HB := n3_; clear n0_ n1_ n2_ n3_; (try clear hb); (try clear hb2); (try clear hk); (try clear hi); (try clear ho0); obtain ⟨Ao8, co8, eo8⟩ := Kd.R_slice HO258.out; subst eo8; have hcz9_0 := cz4_0 BK254; have hcz9_1 := cz4_1 BK254; have hcz9_2 := cz4_2 BK254; have hcz9_3 := cz4_3 BK254; have hfz9_0 := blk_frozen BK254.out 0; have hfz9_1 := blk_frozen BK254.out 1; have hfz9_2 := blk_frozen BK254.out 2; have hfz9_3 := blk_frozen BK254.out 3; have hcz10_0 := cz4_0 BK255; have hcz10_1 := cz4_1 BK255; have hcz10_2 := cz4_2 BK255; have hcz10_3 := cz4_3 BK255; have hfz10_0 := blk_frozen BK255.out 0; have hfz10_1 := blk_frozen BK255.out 1; have hfz10_2 := blk_frozen BK255.out 2; have hfz10_3 := blk_frozen BK255.out 3))
 refine bodyPost_ret (results_cell_row rfl _ _ gb255 26 #[.slice Ao8 t256.length co8, .int .i64 a0_1, .int .i64 a0_2, .string a0_3] (0, 0) _ rfl (by (with_reducible repeat (first | refine aB1 ?_ _ | refine aB2 ?_ | refine aB3 ?_ _)); refine blk_put (cs := #[.slice Ao8 t256.length co8, .int .i64 a0_1, .int .i64 a0_2, .string (⟨#[]⟩ : ByteArray)]) ?_ 3 _ rfl; (with_reducible repeat (first | refine aB1 ?_ _ | refine aB2 ?_ | refine aB3 ?_ _)); refine blk_put (cs := #[.slice Ao8 t256.length co8, .int .i64 a0_1, .int .i64 0, .string (⟨#[]⟩ : ByteArray)]) ?_ 2 _ rfl; (with_reducible repeat (first | refine aB1 ?_ _ | refine aB2 ?_ | refine aB3 ?_ _)); refine blk_put (cs := #[.slice Ao8 t256.length co8, .int .i64 0, .int .i64 0, .string (⟨#[]⟩ : ByteArray)]) ?_ 1 _ rfl; (with_reducible repeat (first | refine aB1 ?_ _ | refine aB2 ?_ | refine aB3 ?_ _)); refine blk_put (cs := #[.slice none 0 0, .int .i64 0, .int .i64 0, .string (⟨#[]⟩ : ByteArray)]) ?_ 0 _ rfl; (with_reducible repeat (first | refine aB1 ?_ _ | refine aB2 ?_ | refine aB3 ?_ _)); refine blk_far ?_ NB255_254.out _; (with_reducible repeat (first | refine aB1 ?_ _ | refine aB2 ?_ | refine aB3 ?_ _)); exact BK255.out) Try.underlying26 rfl (by kernel_rfl)) rfl ?_
 exact ⟨_, by first | rfl | (simp [errW_none, errW_some] <;> rfl) | (simp [*, errW_none, errW_some] <;> rfl), by (with_reducible repeat (first | apply aR1 | apply aR2 | apply aR3)); exact Kd.R_mono (Kd.R_far (p := ⟨gb255, 3, none⟩) (Kd.R_far (p := ⟨gb255, 2, none⟩) (Kd.R_far (p := ⟨gb255, 1, none⟩) (Kd.R_far (p := ⟨gb255, 0, none⟩) (Kd.R_far (p := ⟨gb254, 0, none⟩) (Kd.R_types (Kd.R_types HO258.out BK254.out (by decide)) BK255.out (by decide)) (fun _ hk => hk.1.2) (.slice Ao8 t256.length co8)) (fun _ hk => hk.2) (.slice Ao8 t256.length co8)) (fun _ hk => hk.2) (.int .i64 a0_1)) (fun _ hk => hk.2) (.int .i64 a0_2)) (fun _ hk => hk.2) (.string a0_3)) (fun _ hk => trivial), by repeat (first | (with_reducible first | exact HB.out | apply aW1 | apply aW2 | apply aW3 | refine below_set ?_ GE254.out | refine below_set ?_ GE255.out) | exact HB.out)⟩

/-! ### impl_Merge: function 11 -/
def impl_Merge.f (l0_0 : List (S89)) (a0_1 : Int) (a0_2 : Int) (a0_3 : ByteArray) (l1_0 : List (S89)) (a1_1 : Int) (a1_2 : Int) (a1_3 : ByteArray) : Option ((List (S89)) × Int × Int × ByteArray) := (impl_copyAlarm.f l1_0 a1_1 a1_2 a1_3).bind fun bt262 => ((impl_Touch.f l0_0 a0_1 a0_2 a0_3 l1_0 a1_1 a1_2 a1_3).bind fun t269 => (if t269 = true then (some (bt262.1, mn a0_1 a1_1, bt262.2.2.1, bt262.2.2.2)) else (some (bt262.1, bt262.2.1, bt262.2.2.1, bt262.2.2.2))))
set_option maxHeartbeats 8000000 in
set_option maxRecDepth 100000 in
theorem impl_Merge.calls (A0_0 : Option Addr) (c0_0 : Nat) (l0_0 : List (S89)) (a0_1 : Int) (a0_2 : Int) (a0_3 : ByteArray) (A1_0 : Option Addr) (c1_0 : Nat) (l1_0 : List (S89)) (a1_1 : Int) (a1_2 : Int) (a1_3 : ByteArray) (r1 : List (S89)) (r2 : Int) (r3 : Int) (r4 : ByteArray) (w : World) (hr0_0 : Kd.C k89 w A0_0 l0_0.length l0_0) (hc0_0 : l0_0.length ≤ c0_0) (hr1_0 : Kd.C k89 w A1_0 l1_0.length l1_0) (hc1_0 : l1_0.length ≤ c1_0) (h : impl_Merge.f l0_0 a0_1 a0_2 a0_3 l1_0 a1_1 a1_2 a1_3 = some (r1, r2, r3, r4)) :
  Calls Try.prog 11 #[.agg #[.slice A0_0 l0_0.length c0_0, .int .i64 a0_1, .int .i64 a0_2, .string a0_3], .agg #[.slice A1_0 l1_0.length c1_0, .int .i64 a1_1, .int .i64 a1_2, .string a1_3]] w fun e w' => ∃ v0_ : Value, e = .returned (.agg #[v0_, .int .i64 r2, .int .i64 r3, .string r4]) ∧ Kd.R k89 89 w' w.heap.size (fun _ => True) v0_ r1 ∧ Below w.heap.size w w' := by
 have hu26 := Try.underlying26
 have HR0_0 := aM hr0_0
 have HC0_0 := aM hc0_0
 clear hr0_0 hc0_0
 have HR1_0 := aM hr1_0
 have HC1_0 := aM hc1_0
 clear hr1_0 hc1_0
 have HB := aM (Below.refl w.heap.size w)
 have H : ((impl_copyAlarm.f l1_0 a1_1 a1_2 a1_3).bind fun bt262 => ((impl_Touch.f l0_0 a0_1 a0_2 a0_3 l1_0 a1_1 a1_2 a1_3).bind fun t269 => (if t269 = true then (some (bt262.1, mn a0_1 a1_1, bt262.2.2.1, bt262.2.2.2)) else (some (bt262.1, bt262.2.1, bt262.2.2.1, bt262.2.2.2))))) = some (r1, r2, r3, r4) := h
 clear h; replace H := Option.bind_eq_some_iff.mp H
 obtain ⟨⟨t262, t265, t266, t267⟩, A30, H⟩ := H
 try dsimp only at H
 have A3 := aM A30
 clear A30; replace H := Option.bind_eq_some_iff.mp H; obtain ⟨t269, A40, H⟩ := H; try dsimp only at H
 have A4 := aM A40
 clear A40
 by_cases c5 : t269 = true
 ·subst c5
  have H1 : (some (t262, mn a0_1 a1_1, t266, t267)) = some (r1, r2, r3, r4) := by rw [if_pos rfl] at H; exact H
  clear H
  have H := H1
  clear H1
  obtain ⟨ji6, hji6⟩ : ∃ j_ : Int, (mn a0_1 a1_1) = j_ := ⟨_, rfl⟩
  replace H : (some (t262, ji6, t266, t267)) = some (r1, r2, r3, r4) := by first | (rw [hji6] at H; exact H) | (simp only [hji6] at H ⊢; exact H)
  (try rw [hji6] at A3)
  (try rw [hji6] at A4)
  have hji6_ : (if a1_1 < a0_1 then a1_1 else a0_1) = ji6 := hji6
  simp only [Option.some.injEq, Prod.mk.injEq] at H
  obtain ⟨rfl, rfl, rfl, rfl⟩ := H
  go_enter Try.func11, Try.ntmps11
  go_wp2_with (first | ((with_reducible refine gate_dst (N := 2) rfl ?_); refine box_event ?hg (N := 2) ?hd (cs := #[.slice A0_0 l0_0.length c0_0, .int .i64 a0_1, .int .i64 a0_2, .string a0_3]) (t := 26) ?hr ?_; (case hd => rfl); (case hg => rfl); (case hr => first | (go_simp; done) | (go_simp; rfl)); intro gb259 hg w7 hbox hb; have n0_ := aM (below_step (by repeat (first | (with_reducible first | exact HB.out | apply aW1 | apply aW2 | apply aW3) | exact HB.out)) hb); have n1_ := aM (hbox); have n2_ := aM ((by rw [hg]; exact (below_size (by repeat (first | (with_reducible first | exact HB.out | apply aW1 | apply aW2 | apply aW3) | exact HB.out))) : w.heap.size ≤ gb259)); have n3_ := aM ((by rw [hg]; exact (below_size (by repeat (first | (with_reducible first | exact HB.out | apply aW1 | apply aW2 | apply aW3) | exact HB.out))) : w.heap.size ≤ gb259)); clear HB; have HB := n0_; have BK259 := n1_; have GW259 := n2_; have GE259 := n3_; clear n0_ n1_ n2_ n3_ hb hbox hg) | ((with_reducible refine gate_dst (N := 3) rfl ?_); refine box_event ?hg (N := 3) ?hd (cs := #[.slice A1_0 l1_0.length c1_0, .int .i64 a1_1, .int .i64 a1_2, .string a1_3]) (t := 26) ?hr ?_; (case hd => rfl); (case hg => rfl); (case hr => first | (go_simp; done) | (go_simp; rfl)); intro gb260 hg w8 hbox hb; have n0_ := bb BK259 hb; have n1_ := aM (below_step (by repeat (first | (with_reducible first | exact HB.out | apply aW1 | apply aW2 | apply aW3 | refine below_set ?_ GE259.out) | exact HB.out)) hb); have n2_ := aM (hbox); have n3_ := aM ((by rw [hg]; exact (below_size (by repeat (first | (with_reducible first | exact HB.out | apply aW1 | apply aW2 | apply aW3 | refine below_set ?_ GE259.out) | exact HB.out))) : w.heap.size ≤ gb260)); have n4_ := aM ((by rw [hg]; exact (below_size (by repeat (first | (with_reducible first | exact HB.out | apply aW1 | apply aW2 | apply aW3 | refine below_set ?_ GE259.out) | exact HB.out))) : w.heap.size ≤ gb260)); have n5_ := aM ((by rw [hg]; exact Nat.ne_of_lt (blk_lt (g := gb259) (aB BK259)) : gb259 ≠ gb260)); have n6_ := aM ((by rw [hg]; exact Nat.ne_of_gt (blk_lt (g := gb259) (aB BK259)) : gb260 ≠ gb259)); clear BK259 HB; have BK259 := n0_; have HB := n1_; have BK260 := n2_; have GW260 := n3_; have GE260 := n4_; have NB259_260 := n5_; have NB260_259 := n6_; clear n0_ n1_ n2_ n3_ n4_ n5_ n6_ hb hbox hg) | ((with_reducible refine gate_dst (N := 4) rfl ?_); refine box_event ?hg (N := 4) ?hd (cs := #[.slice none 0 0, .int .i64 0, .int .i64 0, .string (⟨#[]⟩ : ByteArray)]) (t := 26) ?hr ?_; (case hd => rfl); (case hg => rfl); (case hr => first | (go_simp; done) | (go_simp; rfl)); intro gb261 hg w9 hbox hb; have n0_ := bb BK259 hb; have n1_ := bb BK260 hb; have n2_ := aM (below_step (by repeat (first | (with_reducible first | exact HB.out | apply aW1 | apply aW2 | apply aW3 | refine below_set ?_ GE259.out | refine below_set ?_ GE260.out) | exact HB.out)) hb); have n3_ := aM (hbox); have n4_ := aM ((by rw [hg]; exact (below_size (by repeat (first | (with_reducible first | exact HB.out | apply aW1 | apply aW2 | apply aW3 | refine below_set ?_ GE259.out | refine below_set ?_ GE260.out) | exact HB.out))) : w.heap.size ≤ gb261)); have n5_ := aM ((by rw [hg]; exact (below_size (by repeat (first | (with_reducible first | exact HB.out | apply aW1 | apply aW2 | apply aW3 | refine below_set ?_ GE259.out | refine below_set ?_ GE260.out) | exact HB.out))) : w.heap.size ≤ gb261)); have n6_ := aM ((by rw [hg]; exact Nat.ne_of_lt (blk_lt (g := gb259) (aB BK259)) : gb259 ≠ gb261)); have n7_ := aM ((by rw [hg]; exact Nat.ne_of_gt (blk_lt (g := gb259) (aB BK259)) : gb261 ≠ gb259)); have n8_ := aM ((by rw [hg]; exact Nat.ne_of_lt (blk_lt (g := gb260) (aB BK260)) : gb260 ≠ gb261)); have n9_ := aM ((by rw [hg]; exact Nat.ne_of_gt (blk_lt (g := gb260) (aB BK260)) : gb261 ≠ gb260)); clear BK259 BK260 HB; have BK259 := n0_; have BK260 := n1_; have HB := n2_; have BK261 := n3_; have GW261 := n4_; have GE261 := n5_; have NB259_261 := n6_; have NB261_259 := n7_; have NB260_261 := n8_; have NB261_260 := n9_; clear n0_ n1_ n2_ n3_ n4_ n5_ n6_ n7_ n8_ n9_ hb hbox hg; have hnb10 := NB260_259.out; have hnc10 := NB259_260.out; have hnb11 := NB260_261.out; have hnc11 := NB261_260.out; have hcz12_0 := cz4_0 BK260; have hcz12_1 := cz4_1 BK260; have hcz12_2 := cz4_2 BK260; have hcz12_3 := cz4_3 BK260; have hfz12_0 := blk_frozen BK260.out 0; have hfz12_1 := blk_frozen BK260.out 1; have hfz12_2 := blk_frozen BK260.out 2; have hfz12_3 := blk_frozen BK260.out 3) | ((with_reducible refine gate_callee (f := 57) rfl ?_); refine goesL_ (some 7) rfl rfl Try.func57 (by kernel_rfl) rfl #[.agg #[.slice A1_0 l1_0.length c1_0, .int .i64 a1_1, .int .i64 a1_2, .string a1_3]] rfl (by (try simp only [List.map_toArray, List.map_cons, List.map_nil]); first | done | rfl | (simp only [List.length_drop, List.length_take]; rfl)) ?_; (with_reducible refine (impl_copyAlarm.calls _ _ l1_0 a1_1 a1_2 a1_3 t262 t265 t266 t267 _ ?side1 ?side2 A3.out).mono ?_); (case side1 => repeat (first | exact (Kd.C_below HR1_0.out HB.out) | (with_reducible refine Kd.C_alloc ?_ _) | (with_reducible refine Kd.C_drewN ?_ _) | (with_reducible refine Kd.C_drew ?_))); (case side2 => exact HC1_0.out); rintro e w13 ⟨v263, rfl, ho0, hb⟩; refine ⟨_, rfl, ?_⟩; have n0_ := aM (Kd.R_lower ho0 (below_size (by repeat (first | (with_reducible first | exact HB.out | apply aW1 | apply aW2 | apply aW3 | refine below_set ?_ GE259.out | refine below_set ?_ GE260.out | refine below_set ?_ GE261.out) | exact HB.out)))); have n1_ := bb BK259 hb; have n2_ := bb BK260 hb; have n3_ := bb BK261 hb; have n4_ := aM (below_step (by repeat (first | (with_reducible first | exact HB.out | apply aW1 | apply aW2 | apply aW3 | refine below_set ?_ GE259.out | refine below_set ?_ GE260.out | refine below_set ?_ GE261.out) | exact HB.out)) hb); clear BK259 BK260 BK261 HB; have HO264 := n0_; have BK259 := n1_; have BK260 := n2_; have BK261 := n3_; have HB := n4_; clear n0_ n1_ n2_ n3_ n4_; (try clear hb); (try clear hb2); (try clear hk); (try clear hi); (try clear ho0)) | ((with_reducible refine gate_dst (N := 5) rfl ?_); refine box_event ?hg (N := 5) ?hd (cs := #[.slice none 0 0, .int .i64 0, .int .i64 0, .string (⟨#[]⟩ : ByteArray)]) (t := 26) ?hr ?_; (case hd => rfl); (case hg => rfl); (case hr => first | (go_simp; done) | (go_simp; rfl)); intro gb268 hg w14 hbox hb; have n0_ := rb HO264 hb; have n1_ := bb BK259 hb; have n2_ := bb BK260 hb; have n3_ := bb BK261 hb; have n4_ := aM (below_step (by repeat (first | (with_reducible first | exact HB.out | apply aW1 | apply aW2 | apply aW3 | refine below_set ?_ GE259.out | refine below_set ?_ GE260.out | refine below_set ?_ GE261.out) | exact HB.out)) hb); have n5_ := aM (hbox); have n6_ := aM ((by rw [hg]; exact (below_size (by repeat (first | (with_reducible first | exact HB.out | apply aW1 | apply aW2 | apply aW3 | refine below_set ?_ GE259.out | refine below_set ?_ GE260.out | refine below_set ?_ GE261.out) | exact HB.out))) : w.heap.size ≤ gb268)); have n7_ := aM ((by rw [hg]; exact (below_size (by repeat (first | (with_reducible first | exact HB.out | apply aW1 | apply aW2 | apply aW3 | refine below_set ?_ GE259.out | refine below_set ?_ GE260.out | refine below_set ?_ GE261.out) | exact HB.out))) : w.heap.size ≤ gb268)); have n8_ := aM ((by rw [hg]; exact Nat.ne_of_lt (blk_lt (g := gb259) (aB BK259)) : gb259 ≠ gb268)); have n9_ := aM ((by rw [hg]; exact Nat.ne_of_gt (blk_lt (g := gb259) (aB BK259)) : gb268 ≠ gb259)); have n10_ := aM ((by rw [hg]; exact Nat.ne_of_lt (blk_lt (g := gb260) (aB BK260)) : gb260 ≠ gb268)); have n11_ := aM ((by rw [hg]; exact Nat.ne_of_gt (blk_lt (g := gb260) (aB BK260)) : gb268 ≠ gb260)); have n12_ := aM ((by rw [hg]; exact Nat.ne_of_lt (blk_lt (g := gb261) (aB BK261)) : gb261 ≠ gb268)); have n13_ := aM ((by rw [hg]; exact Nat.ne_of_gt (blk_lt (g := gb261) (aB BK261)) : gb268 ≠ gb261)); clear HO264 BK259 BK260 BK261 HB; have HO264 := n0_; have BK259 := n1_; have BK260 := n2_; have BK261 := n3_; have HB := n4_; have BK268 := n5_; have GW268 := n6_; have GE268 := n7_; have NB259_268 := n8_; have NB268_259 := n9_; have NB260_268 := n10_; have NB268_260 := n11_; have NB261_268 := n12_; have NB268_261 := n13_; clear n0_ n1_ n2_ n3_ n4_ n5_ n6_ n7_ n8_ n9_ n10_ n11_ n12_ n13_ hb hbox hg; obtain ⟨Ao15, co15, eo15⟩ := Kd.R_slice HO264.out; subst eo15; have hnb16 := NB268_259.out; have hnc16 := NB259_268.out; have hnb17 := NB268_260.out; have hnc17 := NB260_268.out; have hnb18 := NB268_261.out; have hnc18 := NB261_268.out; have hcz19_0 := cz4_0 BK268; have hcz19_1 := cz4_1 BK268; have hcz19_2 := cz4_2 BK268; have hcz19_3 := cz4_3 BK268; have hfz19_0 := blk_frozen BK268.out 0; have hfz19_1 := blk_frozen BK268.out 1; have hfz19_2 := blk_frozen BK268.out 2; have hfz19_3 := blk_frozen BK268.out 3; have hnb20 := NB259_261.out; have hnc20 := NB261_259.out; have hcz21_0 := cz4_0 BK259; have hcz21_1 := cz4_1 BK259; have hcz21_2 := cz4_2 BK259; have hcz21_3 := cz4_3 BK259; have hfz21_0 := blk_frozen BK259.out 0; have hfz21_1 := blk_frozen BK259.out 1; have hfz21_2 := blk_frozen BK259.out 2; have hfz21_3 := blk_frozen BK259.out 3; have hcz22_0 := cz4_0 BK260; have hcz22_1 := cz4_1 BK260; have hcz22_2 := cz4_2 BK260; have hcz22_3 := cz4_3 BK260; have hfz22_0 := blk_frozen BK260.out 0; have hfz22_1 := blk_frozen BK260.out 1; have hfz22_2 := blk_frozen BK260.out 2; have hfz22_3 := blk_frozen BK260.out 3) | ((with_reducible refine gate_callee (f := 15) rfl ?_); refine goesL_ (some 10) rfl rfl Try.func15 (by kernel_rfl) rfl #[.agg #[.slice A0_0 l0_0.length c0_0, .int .i64 a0_1, .int .i64 a0_2, .string a0_3], .agg #[.slice A1_0 l1_0.length c1_0, .int .i64 a1_1, .int .i64 a1_2, .string a1_3]] rfl (by (try simp only [List.map_toArray, List.map_cons, List.map_nil]); first | done | rfl | (simp only [List.length_drop, List.length_take]; rfl)) ?_; (with_reducible refine (impl_Touch.calls _ _ l0_0 a0_1 a0_2 a0_3 _ _ l1_0 a1_1 a1_2 a1_3 true _ ?side1 ?side2 ?side3 ?side4 A4.out).mono ?_); (case side1 => exact Kd.C_below HR0_0.out (by repeat (first | (with_reducible first | exact HB.out | apply aW1 | apply aW2 | apply aW3 | refine below_set ?_ GE259.out | refine below_set ?_ GE260.out | refine below_set ?_ GE261.out | refine below_set ?_ GE268.out) | exact HB.out))); (case side2 => exact HC0_0.out); (case side3 => exact Kd.C_below HR1_0.out (by repeat (first | (with_reducible first | exact HB.out | apply aW1 | apply aW2 | apply aW3 | refine below_set ?_ GE259.out | refine below_set ?_ GE260.out | refine below_set ?_ GE261.out | refine below_set ?_ GE268.out) | exact HB.out))); (case side4 => exact HC1_0.out); rintro e w23 ⟨rfl, hb⟩; refine ⟨_, rfl, ?_⟩; have n0_ := aM (Kd.R_below (by (with_reducible repeat (first | apply aR1 | apply aR2 | apply aR3)); exact (Kd.R_mono (Kd.R_far (p := ⟨gb268, 3, none⟩) (Kd.R_far (p := ⟨gb268, 2, none⟩) (Kd.R_far (p := ⟨gb268, 1, none⟩) (Kd.R_far (p := ⟨gb268, 0, none⟩) (Kd.R_types HO264.out BK268.out (by decide)) (fun _ hk => hk.2) (.slice Ao15 t262.length co15)) (fun _ hk => hk.2) (.int .i64 t265)) (fun _ hk => hk.2) (.int .i64 t266)) (fun _ hk => hk.2) (.string t267)) (fun _ h_ => h_.1))) hb); have n1_ := aM (blk_below (g := gb259) (o := .cells #[.slice A0_0 l0_0.length c0_0, .int .i64 a0_1, .int .i64 a0_2, .string a0_3] 26 (0, 0)) (by (with_reducible repeat (first | refine aB1 ?_ _ | refine aB2 ?_ | refine aB3 ?_ _)); refine blk_far ?_ NB259_268.out _; (with_reducible repeat (first | refine aB1 ?_ _ | refine aB2 ?_ | refine aB3 ?_ _)); refine blk_far ?_ NB259_268.out _; (with_reducible repeat (first | refine aB1 ?_ _ | refine aB2 ?_ | refine aB3 ?_ _)); refine blk_far ?_ NB259_268.out _; (with_reducible repeat (first | refine aB1 ?_ _ | refine aB2 ?_ | refine aB3 ?_ _)); refine blk_far ?_ NB259_268.out _; (with_reducible repeat (first | refine aB1 ?_ _ | refine aB2 ?_ | refine aB3 ?_ _)); exact BK259.out) hb); have n2_ := aM (blk_below (g := gb260) (o := .cells #[.slice A1_0 l1_0.length c1_0, .int .i64 a1_1, .int .i64 a1_2, .string a1_3] 26 (0, 0)) (by (with_reducible repeat (first | refine aB1 ?_ _ | refine aB2 ?_ | refine aB3 ?_ _)); refine blk_far ?_ NB260_268.out _; (with_reducible repeat (first | refine aB1 ?_ _ | refine aB2 ?_ | refine aB3 ?_ _)); refine blk_far ?_ NB260_268.out _; (with_reducible repeat (first | refine aB1 ?_ _ | refine aB2 ?_ | refine aB3 ?_ _)); refine blk_far ?_ NB260_268.out _; (with_reducible repeat (first | refine aB1 ?_ _ | refine aB2 ?_ | refine aB3 ?_ _)); refine blk_far ?_ NB260_268.out _; (with_reducible repeat (first | refine aB1 ?_ _ | refine aB2 ?_ | refine aB3 ?_ _)); exact BK260.out) hb); have n3_ := aM (blk_below (g := gb261) (o := .cells #[.slice none 0 0, .int .i64 0, .int .i64 0, .string (⟨#[]⟩ : ByteArray)] 26 (0, 0)) (by (with_reducible repeat (first | refine aB1 ?_ _ | refine aB2 ?_ | refine aB3 ?_ _)); refine blk_far ?_ NB261_268.out _; (with_reducible repeat (first | refine aB1 ?_ _ | refine aB2 ?_ | refine aB3 ?_ _)); refine blk_far ?_ NB261_268.out _; (with_reducible repeat (first | refine aB1 ?_ _ | refine aB2 ?_ | refine aB3 ?_ _)); refine blk_far ?_ NB261_268.out _; (with_reducible repeat (first | refine aB1 ?_ _ | refine aB2 ?_ | refine aB3 ?_ _)); refine blk_far ?_ NB261_268.out _; (with_reducible repeat (first | refine aB1 ?_ _ | refine aB2 ?_ | refine aB3 ?_ _)); exact BK261.out) hb); have n4_ := aM (blk_below (g := gb268) (o := .cells #[.slice Ao15 t262.length co15, .int .i64 t265, .int .i64 t266, .string t267] 26 (0, 0)) (by (with_reducible repeat (first | refine aB1 ?_ _ | refine aB2 ?_ | refine aB3 ?_ _)); refine blk_put (cs := #[.slice Ao15 t262.length co15, .int .i64 t265, .int .i64 t266, .string (⟨#[]⟩ : ByteArray)]) ?_ 3 _ rfl; (with_reducible repeat (first | refine aB1 ?_ _ | refine aB2 ?_ | refine aB3 ?_ _)); refine blk_put (cs := #[.slice Ao15 t262.length co15, .int .i64 t265, .int .i64 0, .string (⟨#[]⟩ : ByteArray)]) ?_ 2 _ rfl; (with_reducible repeat (first | refine aB1 ?_ _ | refine aB2 ?_ | refine aB3 ?_ _)); refine blk_put (cs := #[.slice Ao15 t262.length co15, .int .i64 0, .int .i64 0, .string (⟨#[]⟩ : ByteArray)]) ?_ 1 _ rfl; (with_reducible repeat (first | refine aB1 ?_ _ | refine aB2 ?_ | refine aB3 ?_ _)); refine blk_put (cs := #[.slice none 0 0, .int .i64 0, .int .i64 0, .string (⟨#[]⟩ : ByteArray)]) ?_ 0 _ rfl; (with_reducible repeat (first | refine aB1 ?_ _ | refine aB2 ?_ | refine aB3 ?_ _)); exact BK268.out) hb); have n5_ := aM (below_step (by repeat (first | (with_reducible first | exact HB.out | apply aW1 | apply aW2 | apply aW3 | refine below_set ?_ GE259.out | refine below_set ?_ GE260.out | refine below_set ?_ GE261.out | refine below_set ?_ GE268.out) | exact HB.out)) hb); clear HO264 BK259 BK260 BK261 BK268 HB; have HO264 := n0_; have BK259 := n1_; have BK260 := n2_; have BK261 := n3_; have BK268 := n4_; have HB := n5_; clear n0_ n1_ n2_ n3_ n4_ n5_; (try clear hb); (try clear hb2); (try clear hk); (try clear hi); have hcz24_0 := cz4_0 BK259; have hcz24_1 := cz4_1 BK259; have hcz24_2 := cz4_2 BK259; have hcz24_3 := cz4_3 BK259; have hfz24_0 := blk_frozen BK259.out 0; have hfz24_1 := blk_frozen BK259.out 1; have hfz24_2 := blk_frozen BK259.out 2; have hfz24_3 := blk_frozen BK259.out 3; have hcz25_0 := cz4_0 BK260; have hcz25_1 := cz4_1 BK260; have hcz25_2 := cz4_2 BK260; have hcz25_3 := cz4_3 BK260; have hfz25_0 := blk_frozen BK260.out 0; have hfz25_1 := blk_frozen BK260.out 1; have hfz25_2 := blk_frozen BK260.out 2; have hfz25_3 := blk_frozen BK260.out 3; have hcz26_0 := cz4_0 BK268; have hcz26_1 := cz4_1 BK268; have hcz26_2 := cz4_2 BK268; have hcz26_3 := cz4_3 BK268; have hfz26_0 := blk_frozen BK268.out 0; have hfz26_1 := blk_frozen BK268.out 1; have hfz26_2 := blk_frozen BK268.out 2; have hfz26_3 := blk_frozen BK268.out 3; have hcz27_0 := cz4_0 BK261; have hcz27_1 := cz4_1 BK261; have hcz27_2 := cz4_2 BK261; have hcz27_3 := cz4_3 BK261; have hfz27_0 := blk_frozen BK261.out 0; have hfz27_1 := blk_frozen BK261.out 1; have hfz27_2 := blk_frozen BK261.out 2; have hfz27_3 := blk_frozen BK261.out 3))
  refine bodyPost_ret (results_cell_row rfl _ _ gb261 26 #[.slice Ao15 t262.length co15, .int .i64 ji6, .int .i64 t266, .string t267] (0, 0) _ rfl (by (with_reducible repeat (first | refine aB1 ?_ _ | refine aB2 ?_ | refine aB3 ?_ _)); refine blk_put (cs := #[.slice Ao15 t262.length co15, .int .i64 ji6, .int .i64 t266, .string (⟨#[]⟩ : ByteArray)]) ?_ 3 _ rfl; (with_reducible repeat (first | refine aB1 ?_ _ | refine aB2 ?_ | refine aB3 ?_ _)); refine blk_put (cs := #[.slice Ao15 t262.length co15, .int .i64 ji6, .int .i64 0, .string (⟨#[]⟩ : ByteArray)]) ?_ 2 _ rfl; (with_reducible repeat (first | refine aB1 ?_ _ | refine aB2 ?_ | refine aB3 ?_ _)); refine blk_put (cs := #[.slice Ao15 t262.length co15, .int .i64 0, .int .i64 0, .string (⟨#[]⟩ : ByteArray)]) ?_ 1 _ rfl; (with_reducible repeat (first | refine aB1 ?_ _ | refine aB2 ?_ | refine aB3 ?_ _)); refine blk_put (cs := #[.slice none 0 0, .int .i64 0, .int .i64 0, .string (⟨#[]⟩ : ByteArray)]) ?_ 0 _ rfl; (with_reducible repeat (first | refine aB1 ?_ _ | refine aB2 ?_ | refine aB3 ?_ _)); refine blk_far ?_ NB261_268.out _; (with_reducible repeat (first | refine aB1 ?_ _ | refine aB2 ?_ | refine aB3 ?_ _)); exact BK261.out) Try.underlying26 rfl (by kernel_rfl)) rfl ?_
  exact ⟨_, by first | rfl | (simp [errW_none, errW_some] <;> rfl) | (simp only [← hji6]; first | rfl | (simp [errW_none, errW_some] <;> rfl)) | (simp [*, errW_none, errW_some] <;> rfl), by (with_reducible repeat (first | apply aR1 | apply aR2 | apply aR3)); exact Kd.R_mono (Kd.R_far (p := ⟨gb261, 3, none⟩) (Kd.R_far (p := ⟨gb261, 2, none⟩) (Kd.R_far (p := ⟨gb261, 1, none⟩) (Kd.R_far (p := ⟨gb261, 0, none⟩) (Kd.R_far (p := ⟨gb268, 1, none⟩) (Kd.R_types (Kd.R_types HO264.out BK268.out (by decide)) BK261.out (by decide)) (fun _ hk => hk.1.2) (.int .i64 ji6)) (fun _ hk => hk.2) (.slice Ao15 t262.length co15)) (fun _ hk => hk.2) (.int .i64 ji6)) (fun _ hk => hk.2) (.int .i64 t266)) (fun _ hk => hk.2) (.string t267)) (fun _ hk => trivial), by repeat (first | (with_reducible first | exact HB.out | apply aW1 | apply aW2 | apply aW3 | refine below_set ?_ GE259.out | refine below_set ?_ GE260.out | refine below_set ?_ GE261.out | refine below_set ?_ GE268.out) | exact HB.out)⟩
 ·replace c5 := Bool.eq_false_iff.mpr c5
  subst c5
  have H1 : (some (t262, t265, t266, t267)) = some (r1, r2, r3, r4) := by rw [if_neg (show ¬ (false = true) by decide)] at H; exact H
  clear H
  have H := H1
  clear H1
  simp only [Option.some.injEq, Prod.mk.injEq] at H
  obtain ⟨rfl, rfl, rfl, rfl⟩ := H
  go_enter Try.func11, Try.ntmps11
  go_wp2_with (first | ((with_reducible refine gate_dst (N := 2) rfl ?_); refine box_event ?hg (N := 2) ?hd (cs := #[.slice A0_0 l0_0.length c0_0, .int .i64 a0_1, .int .i64 a0_2, .string a0_3]) (t := 26) ?hr ?_; (case hd => rfl); (case hg => rfl); (case hr => first | (go_simp; done) | (go_simp; rfl)); intro gb259 hg w28 hbox hb; have n0_ := aM (below_step (by repeat (first | (with_reducible first | exact HB.out | apply aW1 | apply aW2 | apply aW3) | exact HB.out)) hb); have n1_ := aM (hbox); have n2_ := aM ((by rw [hg]; exact (below_size (by repeat (first | (with_reducible first | exact HB.out | apply aW1 | apply aW2 | apply aW3) | exact HB.out))) : w.heap.size ≤ gb259)); have n3_ := aM ((by rw [hg]; exact (below_size (by repeat (first | (with_reducible first | exact HB.out | apply aW1 | apply aW2 | apply aW3) | exact HB.out))) : w.heap.size ≤ gb259)); clear HB; have HB := n0_; have BK259 := n1_; have GW259 := n2_; have GE259 := n3_; clear n0_ n1_ n2_ n3_ hb hbox hg) | ((with_reducible refine gate_dst (N := 3) rfl ?_); refine box_event ?hg (N := 3) ?hd (cs := #[.slice A1_0 l1_0.length c1_0, .int .i64 a1_1, .int .i64 a1_2, .string a1_3]) (t := 26) ?hr ?_; (case hd => rfl); (case hg => rfl); (case hr => first | (go_simp; done) | (go_simp; rfl)); intro gb260 hg w29 hbox hb; have n0_ := bb BK259 hb; have n1_ := aM (below_step (by repeat (first | (with_reducible first | exact HB.out | apply aW1 | apply aW2 | apply aW3 | refine below_set ?_ GE259.out) | exact HB.out)) hb); have n2_ := aM (hbox); have n3_ := aM ((by rw [hg]; exact (below_size (by repeat (first | (with_reducible first | exact HB.out | apply aW1 | apply aW2 | apply aW3 | refine below_set ?_ GE259.out) | exact HB.out))) : w.heap.size ≤ gb260)); have n4_ := aM ((by rw [hg]; exact (below_size (by repeat (first | (with_reducible first | exact HB.out | apply aW1 | apply aW2 | apply aW3 | refine below_set ?_ GE259.out) | exact HB.out))) : w.heap.size ≤ gb260)); have n5_ := aM ((by rw [hg]; exact Nat.ne_of_lt (blk_lt (g := gb259) (aB BK259)) : gb259 ≠ gb260)); have n6_ := aM ((by rw [hg]; exact Nat.ne_of_gt (blk_lt (g := gb259) (aB BK259)) : gb260 ≠ gb259)); clear BK259 HB; have BK259 := n0_; have HB := n1_; have BK260 := n2_; have GW260 := n3_; have GE260 := n4_; have NB259_260 := n5_; have NB260_259 := n6_; clear n0_ n1_ n2_ n3_ n4_ n5_ n6_ hb hbox hg) | ((with_reducible refine gate_dst (N := 4) rfl ?_); refine box_event ?hg (N := 4) ?hd (cs := #[.slice none 0 0, .int .i64 0, .int .i64 0, .string (⟨#[]⟩ : ByteArray)]) (t := 26) ?hr ?_; (case hd => rfl); (case hg => rfl); (case hr => first | (go_simp; done) | (go_simp; rfl)); intro gb261 hg w30 hbox hb; have n0_ := bb BK259 hb; have n1_ := bb BK260 hb; have n2_ := aM (below_step (by repeat (first | (with_reducible first | exact HB.out | apply aW1 | apply aW2 | apply aW3 | refine below_set ?_ GE259.out | refine below_set ?_ GE260.out) | exact HB.out)) hb); have n3_ := aM (hbox); have n4_ := aM ((by rw [hg]; exact (below_size (by repeat (first | (with_reducible first | exact HB.out | apply aW1 | apply aW2 | apply aW3 | refine below_set ?_ GE259.out | refine below_set ?_ GE260.out) | exact HB.out))) : w.heap.size ≤ gb261)); have n5_ := aM ((by rw [hg]; exact (below_size (by repeat (first | (with_reducible first | exact HB.out | apply aW1 | apply aW2 | apply aW3 | refine below_set ?_ GE259.out | refine below_set ?_ GE260.out) | exact HB.out))) : w.heap.size ≤ gb261)); have n6_ := aM ((by rw [hg]; exact Nat.ne_of_lt (blk_lt (g := gb259) (aB BK259)) : gb259 ≠ gb261)); have n7_ := aM ((by rw [hg]; exact Nat.ne_of_gt (blk_lt (g := gb259) (aB BK259)) : gb261 ≠ gb259)); have n8_ := aM ((by rw [hg]; exact Nat.ne_of_lt (blk_lt (g := gb260) (aB BK260)) : gb260 ≠ gb261)); have n9_ := aM ((by rw [hg]; exact Nat.ne_of_gt (blk_lt (g := gb260) (aB BK260)) : gb261 ≠ gb260)); clear BK259 BK260 HB; have BK259 := n0_; have BK260 := n1_; have HB := n2_; have BK261 := n3_; have GW261 := n4_; have GE261 := n5_; have NB259_261 := n6_; have NB261_259 := n7_; have NB260_261 := n8_; have NB261_260 := n9_; clear n0_ n1_ n2_ n3_ n4_ n5_ n6_ n7_ n8_ n9_ hb hbox hg; have hnb31 := NB260_259.out; have hnc31 := NB259_260.out; have hnb32 := NB260_261.out; have hnc32 := NB261_260.out; have hcz33_0 := cz4_0 BK260; have hcz33_1 := cz4_1 BK260; have hcz33_2 := cz4_2 BK260; have hcz33_3 := cz4_3 BK260; have hfz33_0 := blk_frozen BK260.out 0; have hfz33_1 := blk_frozen BK260.out 1; have hfz33_2 := blk_frozen BK260.out 2; have hfz33_3 := blk_frozen BK260.out 3) | ((with_reducible refine gate_callee (f := 57) rfl ?_); refine goesL_ (some 7) rfl rfl Try.func57 (by kernel_rfl) rfl #[.agg #[.slice A1_0 l1_0.length c1_0, .int .i64 a1_1, .int .i64 a1_2, .string a1_3]] rfl (by (try simp only [List.map_toArray, List.map_cons, List.map_nil]); first | done | rfl | (simp only [List.length_drop, List.length_take]; rfl)) ?_; (with_reducible refine (impl_copyAlarm.calls _ _ l1_0 a1_1 a1_2 a1_3 t262 t265 t266 t267 _ ?side1 ?side2 A3.out).mono ?_); (case side1 => repeat (first | exact (Kd.C_below HR1_0.out HB.out) | (with_reducible refine Kd.C_alloc ?_ _) | (with_reducible refine Kd.C_drewN ?_ _) | (with_reducible refine Kd.C_drew ?_))); (case side2 => exact HC1_0.out); rintro e w34 ⟨v263, rfl, ho0, hb⟩; refine ⟨_, rfl, ?_⟩; have n0_ := aM (Kd.R_lower ho0 (below_size (by repeat (first | (with_reducible first | exact HB.out | apply aW1 | apply aW2 | apply aW3 | refine below_set ?_ GE259.out | refine below_set ?_ GE260.out | refine below_set ?_ GE261.out) | exact HB.out)))); have n1_ := bb BK259 hb; have n2_ := bb BK260 hb; have n3_ := bb BK261 hb; have n4_ := aM (below_step (by repeat (first | (with_reducible first | exact HB.out | apply aW1 | apply aW2 | apply aW3 | refine below_set ?_ GE259.out | refine below_set ?_ GE260.out | refine below_set ?_ GE261.out) | exact HB.out)) hb); clear BK259 BK260 BK261 HB; have HO264 := n0_; have BK259 := n1_; have BK260 := n2_; have BK261 := n3_; have HB := n4_; clear n0_ n1_ n2_ n3_ n4_; (try clear hb); (try clear hb2); (try clear hk); (try clear hi); (try clear ho0)) | ((with_reducible refine gate_dst (N := 5) rfl ?_); refine box_event ?hg (N := 5) ?hd (cs := #[.slice none 0 0, .int .i64 0, .int .i64 0, .string (⟨#[]⟩ : ByteArray)]) (t := 26) ?hr ?_; (case hd => rfl); (case hg => rfl); (case hr => first | (go_simp; done) | (go_simp; rfl)); intro gb268 hg w35 hbox hb; have n0_ := rb HO264 hb; have n1_ := bb BK259 hb; have n2_ := bb BK260 hb; have n3_ := bb BK261 hb; have n4_ := aM (below_step (by repeat (first | (with_reducible first | exact HB.out | apply aW1 | apply aW2 | apply aW3 | refine below_set ?_ GE259.out | refine below_set ?_ GE260.out | refine below_set ?_ GE261.out) | exact HB.out)) hb); have n5_ := aM (hbox); have n6_ := aM ((by rw [hg]; exact (below_size (by repeat (first | (with_reducible first | exact HB.out | apply aW1 | apply aW2 | apply aW3 | refine below_set ?_ GE259.out | refine below_set ?_ GE260.out | refine below_set ?_ GE261.out) | exact HB.out))) : w.heap.size ≤ gb268)); have n7_ := aM ((by rw [hg]; exact (below_size (by repeat (first | (with_reducible first | exact HB.out | apply aW1 | apply aW2 | apply aW3 | refine below_set ?_ GE259.out | refine below_set ?_ GE260.out | refine below_set ?_ GE261.out) | exact HB.out))) : w.heap.size ≤ gb268)); have n8_ := aM ((by rw [hg]; exact Nat.ne_of_lt (blk_lt (g := gb259) (aB BK259)) : gb259 ≠ gb268)); have n9_ := aM ((by rw [hg]; exact Nat.ne_of_gt (blk_lt (g := gb259) (aB BK259)) : gb268 ≠ gb259)); have n10_ := aM ((by rw [hg]; exact Nat.ne_of_lt (blk_lt (g := gb260) (aB BK260)) : gb260 ≠ gb268)); have n11_ := aM ((by rw [hg]; exact Nat.ne_of_gt (blk_lt (g := gb260) (aB BK260)) : gb268 ≠ gb260)); have n12_ := aM ((by rw [hg]; exact Nat.ne_of_lt (blk_lt (g := gb261) (aB BK261)) : gb261 ≠ gb268)); have n13_ := aM ((by rw [hg]; exact Nat.ne_of_gt (blk_lt (g := gb261) (aB BK261)) : gb268 ≠ gb261)); clear HO264 BK259 BK260 BK261 HB; have HO264 := n0_; have BK259 := n1_; have BK260 := n2_; have BK261 := n3_; have HB := n4_; have BK268 := n5_; have GW268 := n6_; have GE268 := n7_; have NB259_268 := n8_; have NB268_259 := n9_; have NB260_268 := n10_; have NB268_260 := n11_; have NB261_268 := n12_; have NB268_261 := n13_; clear n0_ n1_ n2_ n3_ n4_ n5_ n6_ n7_ n8_ n9_ n10_ n11_ n12_ n13_ hb hbox hg; obtain ⟨Ao36, co36, eo36⟩ := Kd.R_slice HO264.out; subst eo36; have hnb37 := NB268_259.out; have hnc37 := NB259_268.out; have hnb38 := NB268_260.out; have hnc38 := NB260_268.out; have hnb39 := NB268_261.out; have hnc39 := NB261_268.out; have hcz40_0 := cz4_0 BK268; have hcz40_1 := cz4_1 BK268; have hcz40_2 := cz4_2 BK268; have hcz40_3 := cz4_3 BK268; have hfz40_0 := blk_frozen BK268.out 0; have hfz40_1 := blk_frozen BK268.out 1; have hfz40_2 := blk_frozen BK268.out 2; have hfz40_3 := blk_frozen BK268.out 3; have hnb41 := NB259_261.out; have hnc41 := NB261_259.out; have hcz42_0 := cz4_0 BK259; have hcz42_1 := cz4_1 BK259; have hcz42_2 := cz4_2 BK259; have hcz42_3 := cz4_3 BK259; have hfz42_0 := blk_frozen BK259.out 0; have hfz42_1 := blk_frozen BK259.out 1; have hfz42_2 := blk_frozen BK259.out 2; have hfz42_3 := blk_frozen BK259.out 3; have hcz43_0 := cz4_0 BK260; have hcz43_1 := cz4_1 BK260; have hcz43_2 := cz4_2 BK260; have hcz43_3 := cz4_3 BK260; have hfz43_0 := blk_frozen BK260.out 0; have hfz43_1 := blk_frozen BK260.out 1; have hfz43_2 := blk_frozen BK260.out 2; have hfz43_3 := blk_frozen BK260.out 3) | ((with_reducible refine gate_callee (f := 15) rfl ?_); refine goesL_ (some 10) rfl rfl Try.func15 (by kernel_rfl) rfl #[.agg #[.slice A0_0 l0_0.length c0_0, .int .i64 a0_1, .int .i64 a0_2, .string a0_3], .agg #[.slice A1_0 l1_0.length c1_0, .int .i64 a1_1, .int .i64 a1_2, .string a1_3]] rfl (by (try simp only [List.map_toArray, List.map_cons, List.map_nil]); first | done | rfl | (simp only [List.length_drop, List.length_take]; rfl)) ?_; (with_reducible refine (impl_Touch.calls _ _ l0_0 a0_1 a0_2 a0_3 _ _ l1_0 a1_1 a1_2 a1_3 false _ ?side1 ?side2 ?side3 ?side4 A4.out).mono ?_); (case side1 => exact Kd.C_below HR0_0.out (by repeat (first | (with_reducible first | exact HB.out | apply aW1 | apply aW2 | apply aW3 | refine below_set ?_ GE259.out | refine below_set ?_ GE260.out | refine below_set ?_ GE261.out | refine below_set ?_ GE268.out) | exact HB.out))); (case side2 => exact HC0_0.out); (case side3 => exact Kd.C_below HR1_0.out (by repeat (first | (with_reducible first | exact HB.out | apply aW1 | apply aW2 | apply aW3 | refine below_set ?_ GE259.out | refine below_set ?_ GE260.out | refine below_set ?_ GE261.out | refine below_set ?_ GE268.out) | exact HB.out))); (case side4 => exact HC1_0.out); rintro e w44 ⟨rfl, hb⟩; refine ⟨_, rfl, ?_⟩; have n0_ := aM (Kd.R_below (by (with_reducible repeat (first | apply aR1 | apply aR2 | apply aR3)); exact (Kd.R_mono (Kd.R_far (p := ⟨gb268, 3, none⟩) (Kd.R_far (p := ⟨gb268, 2, none⟩) (Kd.R_far (p := ⟨gb268, 1, none⟩) (Kd.R_far (p := ⟨gb268, 0, none⟩) (Kd.R_types HO264.out BK268.out (by decide)) (fun _ hk => hk.2) (.slice Ao36 t262.length co36)) (fun _ hk => hk.2) (.int .i64 t265)) (fun _ hk => hk.2) (.int .i64 t266)) (fun _ hk => hk.2) (.string t267)) (fun _ h_ => h_.1))) hb); have n1_ := aM (blk_below (g := gb259) (o := .cells #[.slice A0_0 l0_0.length c0_0, .int .i64 a0_1, .int .i64 a0_2, .string a0_3] 26 (0, 0)) (by (with_reducible repeat (first | refine aB1 ?_ _ | refine aB2 ?_ | refine aB3 ?_ _)); refine blk_far ?_ NB259_268.out _; (with_reducible repeat (first | refine aB1 ?_ _ | refine aB2 ?_ | refine aB3 ?_ _)); refine blk_far ?_ NB259_268.out _; (with_reducible repeat (first | refine aB1 ?_ _ | refine aB2 ?_ | refine aB3 ?_ _)); refine blk_far ?_ NB259_268.out _; (with_reducible repeat (first | refine aB1 ?_ _ | refine aB2 ?_ | refine aB3 ?_ _)); refine blk_far ?_ NB259_268.out _; (with_reducible repeat (first | refine aB1 ?_ _ | refine aB2 ?_ | refine aB3 ?_ _)); exact BK259.out) hb); have n2_ := aM (blk_below (g := gb260) (o := .cells #[.slice A1_0 l1_0.length c1_0, .int .i64 a1_1, .int .i64 a1_2, .string a1_3] 26 (0, 0)) (by (with_reducible repeat (first | refine aB1 ?_ _ | refine aB2 ?_ | refine aB3 ?_ _)); refine blk_far ?_ NB260_268.out _; (with_reducible repeat (first | refine aB1 ?_ _ | refine aB2 ?_ | refine aB3 ?_ _)); refine blk_far ?_ NB260_268.out _; (with_reducible repeat (first | refine aB1 ?_ _ | refine aB2 ?_ | refine aB3 ?_ _)); refine blk_far ?_ NB260_268.out _; (with_reducible repeat (first | refine aB1 ?_ _ | refine aB2 ?_ | refine aB3 ?_ _)); refine blk_far ?_ NB260_268.out _; (with_reducible repeat (first | refine aB1 ?_ _ | refine aB2 ?_ | refine aB3 ?_ _)); exact BK260.out) hb); have n3_ := aM (blk_below (g := gb261) (o := .cells #[.slice none 0 0, .int .i64 0, .int .i64 0, .string (⟨#[]⟩ : ByteArray)] 26 (0, 0)) (by (with_reducible repeat (first | refine aB1 ?_ _ | refine aB2 ?_ | refine aB3 ?_ _)); refine blk_far ?_ NB261_268.out _; (with_reducible repeat (first | refine aB1 ?_ _ | refine aB2 ?_ | refine aB3 ?_ _)); refine blk_far ?_ NB261_268.out _; (with_reducible repeat (first | refine aB1 ?_ _ | refine aB2 ?_ | refine aB3 ?_ _)); refine blk_far ?_ NB261_268.out _; (with_reducible repeat (first | refine aB1 ?_ _ | refine aB2 ?_ | refine aB3 ?_ _)); refine blk_far ?_ NB261_268.out _; (with_reducible repeat (first | refine aB1 ?_ _ | refine aB2 ?_ | refine aB3 ?_ _)); exact BK261.out) hb); have n4_ := aM (blk_below (g := gb268) (o := .cells #[.slice Ao36 t262.length co36, .int .i64 t265, .int .i64 t266, .string t267] 26 (0, 0)) (by (with_reducible repeat (first | refine aB1 ?_ _ | refine aB2 ?_ | refine aB3 ?_ _)); refine blk_put (cs := #[.slice Ao36 t262.length co36, .int .i64 t265, .int .i64 t266, .string (⟨#[]⟩ : ByteArray)]) ?_ 3 _ rfl; (with_reducible repeat (first | refine aB1 ?_ _ | refine aB2 ?_ | refine aB3 ?_ _)); refine blk_put (cs := #[.slice Ao36 t262.length co36, .int .i64 t265, .int .i64 0, .string (⟨#[]⟩ : ByteArray)]) ?_ 2 _ rfl; (with_reducible repeat (first | refine aB1 ?_ _ | refine aB2 ?_ | refine aB3 ?_ _)); refine blk_put (cs := #[.slice Ao36 t262.length co36, .int .i64 0, .int .i64 0, .string (⟨#[]⟩ : ByteArray)]) ?_ 1 _ rfl; (with_reducible repeat (first | refine aB1 ?_ _ | refine aB2 ?_ | refine aB3 ?_ _)); refine blk_put (cs := #[.slice none 0 0, .int .i64 0, .int .i64 0, .string (⟨#[]⟩ : ByteArray)]) ?_ 0 _ rfl; (with_reducible repeat (first | refine aB1 ?_ _ | refine aB2 ?_ | refine aB3 ?_ _)); exact BK268.out) hb); have n5_ := aM (below_step (by repeat (first | (with_reducible first | exact HB.out | apply aW1 | apply aW2 | apply aW3 | refine below_set ?_ GE259.out | refine below_set ?_ GE260.out | refine below_set ?_ GE261.out | refine below_set ?_ GE268.out) | exact HB.out)) hb); clear HO264 BK259 BK260 BK261 BK268 HB; have HO264 := n0_; have BK259 := n1_; have BK260 := n2_; have BK261 := n3_; have BK268 := n4_; have HB := n5_; clear n0_ n1_ n2_ n3_ n4_ n5_; (try clear hb); (try clear hb2); (try clear hk); (try clear hi); have hcz45_0 := cz4_0 BK268; have hcz45_1 := cz4_1 BK268; have hcz45_2 := cz4_2 BK268; have hcz45_3 := cz4_3 BK268; have hfz45_0 := blk_frozen BK268.out 0; have hfz45_1 := blk_frozen BK268.out 1; have hfz45_2 := blk_frozen BK268.out 2; have hfz45_3 := blk_frozen BK268.out 3; have hcz46_0 := cz4_0 BK261; have hcz46_1 := cz4_1 BK261; have hcz46_2 := cz4_2 BK261; have hcz46_3 := cz4_3 BK261; have hfz46_0 := blk_frozen BK261.out 0; have hfz46_1 := blk_frozen BK261.out 1; have hfz46_2 := blk_frozen BK261.out 2; have hfz46_3 := blk_frozen BK261.out 3))
  refine bodyPost_ret (results_cell_row rfl _ _ gb261 26 #[.slice Ao36 t262.length co36, .int .i64 t265, .int .i64 t266, .string t267] (0, 0) _ rfl (by (with_reducible repeat (first | refine aB1 ?_ _ | refine aB2 ?_ | refine aB3 ?_ _)); refine blk_put (cs := #[.slice Ao36 t262.length co36, .int .i64 t265, .int .i64 t266, .string (⟨#[]⟩ : ByteArray)]) ?_ 3 _ rfl; (with_reducible repeat (first | refine aB1 ?_ _ | refine aB2 ?_ | refine aB3 ?_ _)); refine blk_put (cs := #[.slice Ao36 t262.length co36, .int .i64 t265, .int .i64 0, .string (⟨#[]⟩ : ByteArray)]) ?_ 2 _ rfl; (with_reducible repeat (first | refine aB1 ?_ _ | refine aB2 ?_ | refine aB3 ?_ _)); refine blk_put (cs := #[.slice Ao36 t262.length co36, .int .i64 0, .int .i64 0, .string (⟨#[]⟩ : ByteArray)]) ?_ 1 _ rfl; (with_reducible repeat (first | refine aB1 ?_ _ | refine aB2 ?_ | refine aB3 ?_ _)); refine blk_put (cs := #[.slice none 0 0, .int .i64 0, .int .i64 0, .string (⟨#[]⟩ : ByteArray)]) ?_ 0 _ rfl; (with_reducible repeat (first | refine aB1 ?_ _ | refine aB2 ?_ | refine aB3 ?_ _)); exact BK261.out) Try.underlying26 rfl (by kernel_rfl)) rfl ?_
  exact ⟨_, by first | rfl | (simp [errW_none, errW_some] <;> rfl) | (simp [*, errW_none, errW_some] <;> rfl), by (with_reducible repeat (first | apply aR1 | apply aR2 | apply aR3)); exact Kd.R_mono (Kd.R_far (p := ⟨gb261, 3, none⟩) (Kd.R_far (p := ⟨gb261, 2, none⟩) (Kd.R_far (p := ⟨gb261, 1, none⟩) (Kd.R_far (p := ⟨gb261, 0, none⟩) (Kd.R_types HO264.out BK261.out (by decide)) (fun _ hk => hk.2) (.slice Ao36 t262.length co36)) (fun _ hk => hk.2) (.int .i64 t265)) (fun _ hk => hk.2) (.int .i64 t266)) (fun _ hk => hk.2) (.string t267)) (fun _ hk => trivial), by repeat (first | (with_reducible first | exact HB.out | apply aW1 | apply aW2 | apply aW3 | refine below_set ?_ GE259.out | refine below_set ?_ GE260.out | refine below_set ?_ GE261.out | refine below_set ?_ GE268.out) | exact HB.out)⟩

/-! ### impl_copyAlarms: function 71 -/
def impl_copyAlarms.l0 : Nat → List (S26) → List (S26) → Int → Int → Option ((List (S26)))
 | 0, _, _, _, _ => none
 | k + 1, x3, x6, x7, x8 => if x8 < x7 then (if 0 ≤ x8 then (if x8 < (x6.length : Int) then ((impl_copyAlarm.f ((rd_T26 x6 x8).f0) ((rd_T26 x6 x8).f1) ((rd_T26 x6 x8).f2) ((rd_T26 x6 x8).f3)).bind fun bt272 => (if x3.length < 2513169434916 then (impl_copyAlarms.l0 k (x3 ++ [(⟨bt272.1, bt272.2.1, bt272.2.2.1, bt272.2.2.2⟩ : S26)]) x6 x7 (wrap64 (x8 + 1))) else (none))) else (none)) else (none)) else (some x3)
def impl_copyAlarms.f (k : Nat) (l0 : List (S26)) : Option ((List (S26))) := impl_copyAlarms.l0 k ([] : List (S26)) l0 (l0.length : Int) 0
theorem impl_copyAlarms.mono_l : ∀ k, (∀ y0 y1 y2 y3, LeO (impl_copyAlarms.l0 k y0 y1 y2 y3) (impl_copyAlarms.l0 (k + 1) y0 y1 y2 y3))
 | 0 => fun _ _ _ _ r h => by simp [impl_copyAlarms.l0] at h
 | k + 1 => by
  have ih0 := impl_copyAlarms.mono_l k
  ·intro y0 y1 y2 y3
   unfold impl_copyAlarms.l0
   repeat' first
   | (with_reducible exact ih0 _ _ _ _)
   | (with_reducible exact LeO.refl _)
   | (with_reducible exact LeO.none _)
   | (with_reducible refine LeO.ite ?_ ?_)
   | (with_reducible refine LeO.bind ?_ (fun _ => ?_))
   | exact ih0 _ _ _ _
   | exact LeO.none _
   | refine LeO.ite ?_ ?_
   | refine LeO.bind ?_ (fun _ => ?_)
theorem impl_copyAlarms.mono : ∀ a0 k, LeO (impl_copyAlarms.f k a0) (impl_copyAlarms.f (k + 1) a0) := by
 intro a0 k
 have ih0 := impl_copyAlarms.mono_l k
 unfold impl_copyAlarms.f
 repeat' first
   | (with_reducible exact ih0 _ _ _ _)
   | (with_reducible exact LeO.refl _)
   | (with_reducible exact LeO.none _)
   | (with_reducible refine LeO.ite ?_ ?_)
   | (with_reducible refine LeO.bind ?_ (fun _ => ?_))
   | exact ih0 _ _ _ _
   | exact LeO.none _
   | refine LeO.ite ?_ ?_
   | refine LeO.bind ?_ (fun _ => ?_)
set_option maxHeartbeats 8000000 in
set_option maxRecDepth 100000 in
theorem impl_copyAlarms.calls (k : Nat) (A0 : Option Addr) (c0 : Nat) (l0 : List (S26)) (r : List (S26)) (w : World) (hr0 : Kd.C k26 w A0 l0.length l0) (hc0 : l0.length ≤ c0) (h : impl_copyAlarms.f k l0 = some r) :
  Calls Try.prog 71 #[.slice A0 l0.length c0] w fun e w' => ∃ v0_ : Value, e = .returned (v0_) ∧ Kd.S k26 26 w' w.heap.size (fun _ => True) v0_ r ∧ Below w.heap.size w w' := by
 have hu26 := Try.underlying26
 have HR0 := aM hr0
 have HC0 := aM hc0
 clear hr0 hc0
 have HB := aM (Below.refl w.heap.size w)
 have H : (impl_copyAlarms.l0 k ([] : List (S26)) l0 (l0.length : Int) 0) = some r := h
 clear h
 have H' := aM H
 clear H
 go_enter Try.func71, Try.ntmps71
 go_wp2
 go_loopg [3, 8] k (fun kq v3 v8 w' => ∃ (x3_1 : List (S26)) (x8_1 : Int), v8 = .int .i64 x8_1 ∧ Aside0 (impl_copyAlarms.l0 kq x3_1 l0 (l0.length : Int) x8_1 = some r) ∧ Aside0 (kq ≤ k) ∧ Aside0 (Kd.S k26 26 w' w.heap.size (fun _ => True) v3 x3_1) ∧ Aside0 (Below w.heap.size w w'))
 case atStart => exact ⟨(([] : List (S26))), (0), (by first | rfl | (simp; done) | (simp [*]; done)), H', ⟨Nat.le_refl _⟩, ⟨by first | exact Kd.S_nil _ _ _ _ _ | exact Kd.N_nil _ _ _ _ _ | exact Kd.V_nil _ _ _ _ _ | exact Kd.Q_nil _ _ _ _ _ | exact Kd.R_nil _ _ _ _ _⟩, ⟨by repeat (first | (with_reducible first | exact HB.out | apply aW1 | apply aW2 | apply aW3) | exact HB.out)⟩⟩
 case round =>
  clear H'
  obtain ⟨x3_1, x8_1, rfl, HA, HK1, HO_3, HB⟩ := hrel
  cases gk with
  | zero => exact absurd HA.out (by simp [impl_copyAlarms.l0])
  | succ k1 =>
   have H := HA.out
   clear HA
   simp only [impl_copyAlarms.l0] at H
   by_cases c2 : x8_1 < (l0.length : Int)
   ·rw [if_pos c2] at H; have c2b0 : decide (x8_1 < (l0.length : Int)) = true := decide_eq_true c2; clear c2
    by_cases c3 : 0 ≤ x8_1
    ·rw [if_pos c3] at H; have c3b0 : decide (0 ≤ x8_1) = true := decide_eq_true c3; clear c3
     by_cases c4 : x8_1 < (l0.length : Int)
     ·rw [if_pos c4] at H; have c4b0 : decide (x8_1 < (l0.length : Int)) = true := decide_eq_true c4; clear c4; replace H := Option.bind_eq_some_iff.mp H
      obtain ⟨⟨t272, t275, t276, t277⟩, A50, H⟩ := H
      try dsimp only at H
      have A5 := aM A50
      clear A50
      by_cases c6 : x3_1.length < 2513169434916
      ·rw [if_pos c6] at H
       have LMc6 := aM c6
       clear c6
       obtain ⟨y278, hy278⟩ : ∃ y_ : List (S26), y_ = (x3_1 ++ [(⟨t272, t275, t276, t277⟩ : S26)]) := ⟨_, rfl⟩
       replace H : (impl_copyAlarms.l0 k1 y278 l0 (l0.length : Int) (wrap64 (x8_1 + 1))) = some r := by first | (rw [hy278]; with_reducible exact H) | (have H2_ := (Option.bind_some _ _).symm.trans H; rw [hy278]; with_reducible exact H2_) | (have H2_ := (Option.bind_some _ _).symm.trans H; with_reducible exact H2_) | with_reducible exact H | (rw [hy278]; exact H) | exact H
       have Ny278 := aM hy278
       clear hy278
       have H' := aM H
       clear H
       have p270 : 0 ≤ (x8_1 : Int) := of_decide_eq_true (by first | (with_reducible assumption) | assumption)
       have q270 : x8_1 < (l0.length : Int) := of_decide_eq_true (by first | (with_reducible assumption) | assumption)
       obtain ⟨ad270, A270_0, c270_0, e270, hx270_0, hx270_1, hx270_2, hx270_3, hl270_0, hi270_0⟩ := at_T26 HR0.out x8_1 p270 q270
       cases e270
       replace hx270_0 := (HB.out.cell (World.block_lt_of_cell? w _ hx270_0)).trans hx270_0
       replace hx270_1 := (HB.out.cell (World.block_lt_of_cell? w _ hx270_1)).trans hx270_1
       replace hx270_2 := (HB.out.cell (World.block_lt_of_cell? w _ hx270_2)).trans hx270_2
       replace hx270_3 := (HB.out.cell (World.block_lt_of_cell? w _ hx270_3)).trans hx270_3
       have HR270_0 := aM hi270_0
       have HC270_0 := aM hl270_0
       clear hi270_0 hl270_0
       replace p270 := eq_true p270
       replace q270 := eq_true q270
       go_wp2_with (first | ((with_reducible refine gate_dst (N := 5) rfl ?_); refine box_event ?hg (N := 5) ?hd (cs := #[.slice none 0 0, .int .i64 0, .int .i64 0, .string (⟨#[]⟩ : ByteArray)]) (t := 26) ?hr ?_; (case hd => rfl); (case hg => rfl); (case hr => first | (go_simp; done) | (go_simp; rfl)); intro gb271 hg w7 hbox hb; have n0_ := aM (Kd.S_below (Kd.S_elderB (by (with_reducible repeat (first | apply Kd.S_alloc | apply Kd.S_drewN | apply Kd.S_drew)); exact HO_3.out) gb271 (Nat.le_of_eq hg.symm)) hb); have n1_ := aM (below_step (by repeat (first | (with_reducible first | exact HB.out | apply aW1 | apply aW2 | apply aW3) | exact HB.out)) hb); have n2_ := aM (hbox); have n3_ := aM ((by rw [hg]; exact (below_size (by repeat (first | (with_reducible first | exact HB.out | apply aW1 | apply aW2 | apply aW3) | exact HB.out))) : w.heap.size ≤ gb271)); have n4_ := aM ((by rw [hg]; exact (below_size (by repeat (first | (with_reducible first | exact HB.out | apply aW1 | apply aW2 | apply aW3) | exact HB.out))) : w.heap.size ≤ gb271)); clear HO_3 HB; have HO_3 := n0_; have HB := n1_; have BK271 := n2_; have GW271 := n3_; have GE271 := n4_; clear n0_ n1_ n2_ n3_ n4_ hb hbox hg; have hcz8_0 := cz4_0 BK271; have hcz8_1 := cz4_1 BK271; have hcz8_2 := cz4_2 BK271; have hcz8_3 := cz4_3 BK271; have hfz8_0 := blk_frozen BK271.out 0; have hfz8_1 := blk_frozen BK271.out 1; have hfz8_2 := blk_frozen BK271.out 2; have hfz8_3 := blk_frozen BK271.out 3) | ((with_reducible refine gate_callee (f := 57) rfl ?_); refine goesL_ (some 14) rfl rfl Try.func57 (by kernel_rfl) rfl #[.agg #[.slice A270_0 ((rd_T26 l0 x8_1).f0).length c270_0, .int .i64 ((rd_T26 l0 x8_1).f1), .int .i64 ((rd_T26 l0 x8_1).f2), .string ((rd_T26 l0 x8_1).f3)]] rfl (by (try simp only [List.map_toArray, List.map_cons, List.map_nil]); first | done | rfl | (simp only [List.length_drop, List.length_take]; rfl)) ?_; (with_reducible refine (impl_copyAlarm.calls _ _ ((rd_T26 l0 x8_1).f0) ((rd_T26 l0 x8_1).f1) ((rd_T26 l0 x8_1).f2) ((rd_T26 l0 x8_1).f3) t272 t275 t276 t277 _ ?side1 ?side2 A5.out).mono ?_); (case side1 => exact Kd.C_below HR270_0.out (by repeat (first | (with_reducible first | exact HB.out | apply aW1 | apply aW2 | apply aW3 | refine below_set ?_ GE271.out) | exact HB.out))); (case side2 => exact HC270_0.out); rintro e w9 ⟨v273, rfl, ho0, hb⟩; refine ⟨_, rfl, ?_⟩; have n0_ := aM (Kd.S_elder' (by (with_reducible repeat (first | apply Kd.S_alloc | apply Kd.S_drewN | apply Kd.S_drew)); exact (Kd.S_mono (Kd.S_far (p := ⟨gb271, 3, none⟩) (Kd.S_far (p := ⟨gb271, 2, none⟩) (Kd.S_far (p := ⟨gb271, 1, none⟩) (Kd.S_far (p := ⟨gb271, 0, none⟩) (Kd.S_mono HO_3.out (fun k_ hk => (⟨hk, hk.2⟩ : _ ∧ k_ ≠ gb271))) (fun _ hk => hk.2) (.slice A270_0 ((rd_T26 l0 x8_1).f0).length c270_0)) (fun _ hk => hk.2) (.int .i64 ((rd_T26 l0 x8_1).f1))) (fun _ hk => hk.2) (.int .i64 ((rd_T26 l0 x8_1).f2))) (fun _ hk => hk.2) (.string ((rd_T26 l0 x8_1).f3))) (fun _ h_ => h_.1))) (Kd.R_base ho0) hb); have n1_ := aM (Kd.R_lower ho0 (below_size (by repeat (first | (with_reducible first | exact HB.out | apply aW1 | apply aW2 | apply aW3 | refine below_set ?_ GE271.out) | exact HB.out)))); have n2_ := aM (blk_below (g := gb271) (o := .cells #[.slice A270_0 ((rd_T26 l0 x8_1).f0).length c270_0, .int .i64 ((rd_T26 l0 x8_1).f1), .int .i64 ((rd_T26 l0 x8_1).f2), .string ((rd_T26 l0 x8_1).f3)] 26 (0, 0)) (by (with_reducible repeat (first | refine aB1 ?_ _ | refine aB2 ?_ | refine aB3 ?_ _)); refine blk_put (cs := #[.slice A270_0 ((rd_T26 l0 x8_1).f0).length c270_0, .int .i64 ((rd_T26 l0 x8_1).f1), .int .i64 ((rd_T26 l0 x8_1).f2), .string (⟨#[]⟩ : ByteArray)]) ?_ 3 _ rfl; (with_reducible repeat (first | refine aB1 ?_ _ | refine aB2 ?_ | refine aB3 ?_ _)); refine blk_put (cs := #[.slice A270_0 ((rd_T26 l0 x8_1).f0).length c270_0, .int .i64 ((rd_T26 l0 x8_1).f1), .int .i64 0, .string (⟨#[]⟩ : ByteArray)]) ?_ 2 _ rfl; (with_reducible repeat (first | refine aB1 ?_ _ | refine aB2 ?_ | refine aB3 ?_ _)); refine blk_put (cs := #[.slice A270_0 ((rd_T26 l0 x8_1).f0).length c270_0, .int .i64 0, .int .i64 0, .string (⟨#[]⟩ : ByteArray)]) ?_ 1 _ rfl; (with_reducible repeat (first | refine aB1 ?_ _ | refine aB2 ?_ | refine aB3 ?_ _)); refine blk_put (cs := #[.slice none 0 0, .int .i64 0, .int .i64 0, .string (⟨#[]⟩ : ByteArray)]) ?_ 0 _ rfl; (with_reducible repeat (first | refine aB1 ?_ _ | refine aB2 ?_ | refine aB3 ?_ _)); exact BK271.out) hb); have n3_ := aM (below_step (by repeat (first | (with_reducible first | exact HB.out | apply aW1 | apply aW2 | apply aW3 | refine below_set ?_ GE271.out) | exact HB.out)) hb); clear HO_3 BK271 HB; have HO_3 := n0_; have HO274 := n1_; have BK271 := n2_; have HB := n3_; clear n0_ n1_ n2_ n3_; (try clear hb); (try clear hb2); (try clear hk); (try clear hi); (try clear ho0); obtain ⟨Ao11, co11, eo11⟩ := Kd.R_slice HO274.out; subst eo11) | ((with_reducible refine gate_builtin (b := .append) (xs := #[.tmp 12, .tmp 15]) rfl ?_); at_builtin; refine Kd.S_append k26 (w0 := w) w.heap.size rfl (.tmp 12) (.tmp 15) 37 26 (.agg #[(.slice none 0 0), (.int .i64 0), (.int .i64 0), (.string ⟨#[]⟩)]) 56 rfl Try.underlying37 info26 rfl (by decide) (by omega) u3 x3_1 (⟨t272, t275, t276, t277⟩ : S26) [.slice Ao11 t272.length co11, .int .i64 t275, .int .i64 t276, .string t277] (fun k_ => k_ ≠ gb271) (fun k_ => some k_ = (.slice Ao11 t272.length co11 : Value).ownBlock) rfl rfl ?aP (fun k_ hk_ => ((Kd.R_mono (ok' := fun k_ => ((fun k_ => k_ ≠ gb271)) k_ ∧ some k_ ≠ (u3 : Value).ownBlock) (Kd.R_types (Kd.R_apart' (HO274.out) (Kd.S_typed HO_3.out) (by decide)) BK271.out (by decide)) (fun k_ hk => ⟨hk.2, hk.1.2⟩))).1 k_ hk_.symm) ?aF ?aO ?aB ?aS ?aL ?_; (case aP => exact k26_mkM _ _ _ (⟨t272, t275, t276, t277⟩ : S26) (Kd.R_mono (Kd.R_tight rfl (Kd.R_mono (ok' := fun k_ => ((fun k_ => k_ ≠ gb271)) k_ ∧ some k_ ≠ (u3 : Value).ownBlock) (Kd.R_types (Kd.R_apart' (HO274.out) (Kd.S_typed HO_3.out) (by decide)) BK271.out (by decide)) (fun k_ hk => ⟨hk.2, hk.1.2⟩))) (fun _ h_ => h_))); (case aB => exact (by repeat (first | (with_reducible first | exact HB.out | apply aW1 | apply aW2 | apply aW3 | refine below_set ?_ GE271.out) | exact HB.out))); (case aF => exact (fun k_ hk => Kd.freshB (g := gb271) (aB BK271) k_ hk)); (case aO => exact (by (with_reducible repeat (first | apply Kd.S_alloc | apply Kd.S_drewN | apply Kd.S_drew)); exact Kd.S_mono HO_3.out (fun k_ hk => ⟨hk.1.2, fun e_ => hk.2 e_⟩))); (case aS => exact (below_size (by repeat (first | (with_reducible first | exact HB.out | apply aW1 | apply aW2 | apply aW3 | refine below_set ?_ GE271.out) | exact HB.out)))); (case aL => have := LMc6.out; omega); intro v279 w10 ho hb hg hat; rw [← Ny278.out] at ho; have n0_ := aM (blk_grown (g := gb271) (aB BK271) hg (Kd.S_away HO_3.out (fun _ hk => hk.1.2))); have n1_ := aM (hb); have n2_ := aM (ho); clear BK271 HB HO_3 HO274; have BK271 := n0_; have HB := n1_; have HO280 := n2_; clear n0_ n1_ n2_ ho hb hg hat))
       go_roundg k1
       case measure => have := HK1.out; omega
       case rel => exact ⟨(y278), (wrap64 (x8_1 + 1)), (by first | rfl | (simp; done) | (simp [*]; done)), H', ⟨by have := HK1.out; omega⟩, ⟨by (with_reducible repeat (first | apply Kd.S_alloc | apply Kd.S_drewN | apply Kd.S_drew)); exact Kd.S_mono HO280.out (fun _ hk => trivial)⟩, ⟨by repeat (first | (with_reducible first | exact HB.out | apply aW1 | apply aW2 | apply aW3 | refine below_set ?_ GE271.out) | exact HB.out)⟩⟩
      ·rw [if_neg c6] at H
       exact absurd H (by simp)
     ·rw [if_neg c4] at H
      exact absurd H (by simp)
    ·rw [if_neg c3] at H
     exact absurd H (by simp)
   ·rw [if_neg c2] at H; have c2b0 : decide (x8_1 < (l0.length : Int)) = false := decide_eq_false c2; clear c2
    obtain rfl := Option.some.inj H
    go_wp2
    go_ret
    exact ⟨_, by first | rfl | (simp [errW_none, errW_some] <;> rfl) | (simp [*, errW_none, errW_some] <;> rfl), by (with_reducible repeat (first | apply Kd.S_alloc | apply Kd.S_drewN | apply Kd.S_drew)); exact HO_3.out, by repeat (first | (with_reducible first | exact HB.out | apply aW1 | apply aW2 | apply aW3) | exact HB.out)⟩

/-! ### impl_copyChain: function 78 -/
def impl_copyChain.f (k : Nat) (a0_0 : Int) (l0_1 : List (S26)) : Option (Int × (List (S26))) := (impl_copyAlarms.f k l0_1).bind fun t283 => (some (a0_0, t283))
theorem impl_copyChain.mono : ∀ a0 a1 k, LeO (impl_copyChain.f k a0 a1) (impl_copyChain.f (k + 1) a0 a1) := by
 intro a0 a1 k
 unfold impl_copyChain.f
 repeat' first
   | (with_reducible exact impl_copyAlarms.mono _ _)
   | (with_reducible exact LeO.refl _)
   | (with_reducible exact LeO.none _)
   | (with_reducible refine LeO.ite ?_ ?_)
   | (with_reducible refine LeO.bind ?_ (fun _ => ?_))
   | exact impl_copyAlarms.mono _ _
   | exact LeO.none _
   | refine LeO.ite ?_ ?_
   | refine LeO.bind ?_ (fun _ => ?_)
set_option maxHeartbeats 8000000 in
set_option maxRecDepth 100000 in
theorem impl_copyChain.calls (k : Nat) (a0_0 : Int) (A0_1 : Option Addr) (c0_1 : Nat) (l0_1 : List (S26)) (r1 : Int) (r2 : List (S26)) (w : World) (hr0_1 : Kd.C k26 w A0_1 l0_1.length l0_1) (hc0_1 : l0_1.length ≤ c0_1) (h : impl_copyChain.f k a0_0 l0_1 = some (r1, r2)) :
  Calls Try.prog 78 #[.agg #[.int .i64 a0_0, .slice A0_1 l0_1.length c0_1]] w fun e w' => ∃ v1_ : Value, e = .returned (.agg #[.int .i64 r1, v1_]) ∧ Kd.S k26 26 w' w.heap.size (fun _ => True) v1_ r2 ∧ Below w.heap.size w w' := by
 have hu39 := Try.underlying39
 have HR0_1 := aM hr0_1
 have HC0_1 := aM hc0_1
 clear hr0_1 hc0_1
 have HB := aM (Below.refl w.heap.size w)
 have H : ((impl_copyAlarms.f k l0_1).bind fun t283 => (some (a0_0, t283))) = some (r1, r2) := h
 clear h; replace H := Option.bind_eq_some_iff.mp H; obtain ⟨t283, A20, H⟩ := H; try dsimp only at H
 have A2 := aM A20
 clear A20
 simp only [Option.some.injEq, Prod.mk.injEq] at H
 obtain ⟨rfl, rfl⟩ := H
 go_enter Try.func78, Try.ntmps78
 try go_wp2_with (first | ((with_reducible refine gate_dst (N := 1) rfl ?_); refine box_event ?hg (N := 1) ?hd (cs := #[.int .i64 a0_0, .slice A0_1 l0_1.length c0_1]) (t := 39) ?hr ?_; (case hd => rfl); (case hg => rfl); (case hr => first | (go_simp; done) | (go_simp; rfl)); intro gb281 hg w3 hbox hb; have n0_ := aM (below_step (by repeat (first | (with_reducible first | exact HB.out | apply aW1 | apply aW2 | apply aW3) | exact HB.out)) hb); have n1_ := aM (hbox); have n2_ := aM ((by rw [hg]; exact (below_size (by repeat (first | (with_reducible first | exact HB.out | apply aW1 | apply aW2 | apply aW3) | exact HB.out))) : w.heap.size ≤ gb281)); have n3_ := aM ((by rw [hg]; exact (below_size (by repeat (first | (with_reducible first | exact HB.out | apply aW1 | apply aW2 | apply aW3) | exact HB.out))) : w.heap.size ≤ gb281)); clear HB; have HB := n0_; have BK281 := n1_; have GW281 := n2_; have GE281 := n3_; clear n0_ n1_ n2_ n3_ hb hbox hg) | ((with_reducible refine gate_dst (N := 2) rfl ?_); refine box_event ?hg (N := 2) ?hd (cs := #[.int .i64 0, .slice none 0 0]) (t := 39) ?hr ?_; (case hd => rfl); (case hg => rfl); (case hr => first | (go_simp; done) | (go_simp; rfl)); intro gb282 hg w4 hbox hb; have n0_ := bb BK281 hb; have n1_ := aM (below_step (by repeat (first | (with_reducible first | exact HB.out | apply aW1 | apply aW2 | apply aW3 | refine below_set ?_ GE281.out) | exact HB.out)) hb); have n2_ := aM (hbox); have n3_ := aM ((by rw [hg]; exact (below_size (by repeat (first | (with_reducible first | exact HB.out | apply aW1 | apply aW2 | apply aW3 | refine below_set ?_ GE281.out) | exact HB.out))) : w.heap.size ≤ gb282)); have n4_ := aM ((by rw [hg]; exact (below_size (by repeat (first | (with_reducible first | exact HB.out | apply aW1 | apply aW2 | apply aW3 | refine below_set ?_ GE281.out) | exact HB.out))) : w.heap.size ≤ gb282)); have n5_ := aM ((by rw [hg]; exact Nat.ne_of_lt (blk_lt (g := gb281) (aB BK281)) : gb281 ≠ gb282)); have n6_ := aM ((by rw [hg]; exact Nat.ne_of_gt (blk_lt (g := gb281) (aB BK281)) : gb282 ≠ gb281)); clear BK281 HB; have BK281 := n0_; have HB := n1_; have BK282 := n2_; have GW282 := n3_; have GE282 := n4_; have NB281_282 := n5_; have NB282_281 := n6_; clear n0_ n1_ n2_ n3_ n4_ n5_ n6_ hb hbox hg))
 have n0_ := aM (blk_drew BK281.out)
 have n1_ := aM (blk_drew BK282.out)
 have n2_ := aM (below_drew1 HB.out)
 clear BK281 BK282 HB; have BK281 := n0_; have BK282 := n1_; have HB := n2_; clear n0_ n1_ n2_
 refine start_ (n := 7) (S := fun w' => w'.cell? ⟨gb281, 0, none⟩ = some (.int .i64 a0_0) ∧ w'.cell? ⟨gb281, 1, none⟩ = some (.slice A0_1 l0_1.length c0_1)) (ds := []) (bz 7 0) (by kernel_rfl) rfl (by kernel_rfl) ⟨(blk_cell BK281.out 0).trans rfl, (blk_cell BK281.out 1).trans rfl⟩ (fun hHeld => ?_)
 generalize w4.drew = w5 at BK281 BK282 HB hHeld ⊢
 refine pure_ (i := 0) (N := some 3) (v := ?_) (a' := ?_) (bz 7 1) rfl rfl (by kernel_rfl) (fun _ _ _ h => h) (Or.inl ⟨by rfl, ?_⟩) ?_ ?_
 rotate_left
 ·intro w'
  go_simp
  with_reducible rfl
 rotate_left
 ·simp only [Act.put, List.setIfInBounds_toArray, List.set_cons_zero, List.set_cons_succ, i64_w, i32_w]
  rfl
 refine pure_ (i := 2) (N := some 5) (v := ?_) (a' := ?_) (bz 7 5) rfl rfl (by kernel_rfl) (fun _ _ _ h => h) (Or.inl ⟨by rfl, ?_⟩) ?_ ?_
 rotate_left
 ·intro w'
  go_simp
  with_reducible rfl
 rotate_left
 ·simp only [Act.put, List.setIfInBounds_toArray, List.set_cons_zero, List.set_cons_succ, i64_w, i32_w]
  rfl
 refine take_ (i := 1) (N := some 4) (v := ?_) (a' := ?_) (bz 7 7) rfl rfl (by kernel_rfl) (fun _ _ _ h => h) (Or.inl ⟨by rfl, ?_⟩) hHeld ?_ ?_
 rotate_left
 ·rintro w' ⟨s0, s1⟩
  go_simp
  with_reducible rfl
 rotate_left
 ·simp only [Act.put, List.setIfInBounds_toArray, List.set_cons_zero, List.set_cons_succ, i64_w, i32_w]
  rfl
 refine take_ (i := 3) (N := some 6) (v := ?_) (a' := ?_) (bz 7 15) rfl rfl (by kernel_rfl) (fun _ _ _ h => h) (Or.inl ⟨by rfl, ?_⟩) hHeld ?_ ?_
 rotate_left
 ·rintro w' ⟨s0, s1⟩
  go_simp
  with_reducible rfl
 rotate_left
 ·simp only [Act.put, List.setIfInBounds_toArray, List.set_cons_zero, List.set_cons_succ, i64_w, i32_w]
  rfl
 refine one_ (i := 4) (N := some 7) (bz 7 31) rfl rfl (by kernel_rfl) (by decide) (fun K hK => ?_)
 refine goes_ Try.func71 (by kernel_rfl) rfl #[.slice A0_1 l0_1.length c0_1] (by rfl) rfl rfl (by (try simp only [List.map_toArray, List.map_cons, List.map_nil]); first | done | rfl | (simp only [List.length_drop, List.length_take]; rfl)) ?_
 with_reducible refine (impl_copyAlarms.calls k _ _ l0_1 t283 _ ?side1 ?side2 A2.out).mono ?_
 (case side1 => repeat (first | exact (Kd.C_below HR0_1.out HB.out) | (with_reducible refine Kd.C_alloc ?_ _) | (with_reducible refine Kd.C_drewN ?_ _) | (with_reducible refine Kd.C_drew ?_)))
 (case side2 => exact HC0_1.out)
 rintro e w6 ⟨v284, rfl, ho0, hb⟩
 refine ⟨_, rfl, ?_⟩
 have n0_ := aM (Kd.S_lower ho0 (below_size (by repeat (first | (with_reducible first | exact HB.out | apply aW1 | apply aW2 | apply aW3 | refine below_set ?_ GE281.out | refine below_set ?_ GE282.out) | exact HB.out))))
 have n1_ := bb BK281 hb; have n2_ := bb BK282 hb
 have n3_ := aM (below_step (by repeat (first | (with_reducible first | exact HB.out | apply aW1 | apply aW2 | apply aW3 | refine below_set ?_ GE281.out | refine below_set ?_ GE282.out) | exact HB.out)) hb)
 clear BK281 BK282 HB; have HO285 := n0_; have BK281 := n1_; have BK282 := n2_; have HB := n3_; clear n0_ n1_ n2_ n3_
 (try clear hb)
 (try clear hb2)
 (try clear hk)
 (try clear hi)
 (try clear ho0)
 obtain ⟨Ao7, co7, eo7⟩ := Kd.S_slice HO285.out
 (first | subst eo7 | (injection eo7 with f1_ f2_ f3_; have f4_ := f1_.symm; have f5_ := f3_.symm; clear f1_ f2_ f3_; subst f4_; subst f5_))
 refine hK.out _ _ ⟨(blk_cell BK281.out 0).trans rfl, (blk_cell BK281.out 1).trans rfl⟩ (fun hHeld => ?_)
 clear hK K
 refine norm_ (a' := ?_) ?_ ?_
 rotate_left
 ·show Act.put _ (some 7) _ = _
  simp only [Act.put, List.setIfInBounds_toArray, List.set_cons_zero, List.set_cons_succ, i64_w, i32_w]
  rfl
 refine pure_ (i := 5) (N := some 8) (v := ?_) (a' := ?_) (bz 7 63) rfl rfl (by kernel_rfl) (fun _ _ _ h => h) (Or.inl ⟨by rfl, ?_⟩) ?_ ?_
 rotate_left
 ·intro w'
  go_simp
  with_reducible rfl
 rotate_left
 ·simp only [Act.put, List.setIfInBounds_toArray, List.set_cons_zero, List.set_cons_succ, i64_w, i32_w]
  rfl
 refine one_ (i := 6) (N := none) (bz 7 127) rfl rfl (by kernel_rfl) (by decide) (fun K hK => ?_)
 have hs8 : w6.cell? ⟨gb282, 0, none⟩ = some (.int .i64 0) := (blk_cell BK282.out 0).trans rfl
 have hfs8 := blk_frozen BK282.out 0
 have hns8_0 := NB281_282.out
 have hms8_0 := NB282_281.out
 have hs9 : w6.cell? ⟨gb282, 1, none⟩ = some (.slice none 0 0) := (blk_cell BK282.out 1).trans rfl
 have hfs9 := blk_frozen BK282.out 1
 have hns9_0 := NB281_282.out
 have hms9_0 := NB282_281.out
 refine skip_ (w1 := ?_) (by rfl) rfl ?_ ?_
 rotate_left
 ·go_simp
  rfl
 refine hK.out _ _ ⟨((cell_far (p := ⟨gb282, _, none⟩) NB281_282.out _).trans (((cell_far (p := ⟨gb282, _, none⟩) NB281_282.out _).trans (hHeld.1)))), ((cell_far (p := ⟨gb282, _, none⟩) NB281_282.out _).trans (((cell_far (p := ⟨gb282, _, none⟩) NB281_282.out _).trans (hHeld.2))))⟩ (fun hHeld => ?_)
 clear hK K
 refine done_ (by kernel_rfl) ?_
 try go_wp2
 refine bodyPost_ret (results_cell_row rfl _ _ gb282 39 #[.int .i64 a0_0, .slice Ao7 t283.length co7] (0, 0) _ rfl (by (with_reducible repeat (first | refine aB1 ?_ _ | refine aB2 ?_ | refine aB3 ?_ _)); refine blk_put (cs := #[.int .i64 a0_0, .slice none 0 0]) ?_ 1 _ rfl; (with_reducible repeat (first | refine aB1 ?_ _ | refine aB2 ?_ | refine aB3 ?_ _)); refine blk_put (cs := #[.int .i64 0, .slice none 0 0]) ?_ 0 _ rfl; (with_reducible repeat (first | refine aB1 ?_ _ | refine aB2 ?_ | refine aB3 ?_ _)); exact BK282.out) Try.underlying39 rfl (by kernel_rfl)) rfl ?_
 exact ⟨_, by first | rfl | (simp [errW_none, errW_some] <;> rfl) | (simp [*, errW_none, errW_some] <;> rfl), by (with_reducible repeat (first | apply Kd.S_alloc | apply Kd.S_drewN | apply Kd.S_drew)); exact Kd.S_mono (Kd.S_far (p := ⟨gb282, 1, none⟩) (Kd.S_far (p := ⟨gb282, 0, none⟩) (Kd.S_types HO285.out BK282.out (by decide)) (fun _ hk => hk.2) (.int .i64 a0_0)) (fun _ hk => hk.2) (.slice Ao7 t283.length co7)) (fun _ hk => trivial), by repeat (first | (with_reducible first | exact HB.out | apply aW1 | apply aW2 | apply aW3 | refine below_set ?_ GE281.out | refine below_set ?_ GE282.out) | exact HB.out)⟩

/-! ### impl_SameSet: function 17 -/
def impl_SameSet.l0 : Nat → List (S89) → List (S89) → Int → Int → Option (Bool)
 | 0, _, _, _, _ => none
 | k + 1, x0, x1, x12, x13 => if x13 < x12 then (if 0 ≤ x13 then (if x13 < (x0.length : Int) then (if x13 < (x1.length : Int) then (if (!((((rd_T89 x0 x13).f0).toList) == (((rd_T89 x1 x13).f0).toList)) || (!((((rd_T89 x0 x13).f1).toList) == (((rd_T89 x1 x13).f1).toList)))) = true then (some false) else (impl_SameSet.l0 k x0 x1 x12 (wrap64 (x13 + 1)))) else (none)) else (none)) else (none)) else (some true)
def impl_SameSet.f (k : Nat) (l0 : List (S89)) (l1 : List (S89)) : Option (Bool) := if (l0.length : Int) = (l1.length : Int) then (impl_SameSet.l0 k l0 l1 (l0.length : Int) 0) else (some false)
theorem impl_SameSet.mono_l : ∀ k, (∀ y0 y1 y2 y3, LeO (impl_SameSet.l0 k y0 y1 y2 y3) (impl_SameSet.l0 (k + 1) y0 y1 y2 y3))
 | 0 => fun _ _ _ _ r h => by simp [impl_SameSet.l0] at h
 | k + 1 => by
  have ih0 := impl_SameSet.mono_l k
  ·intro y0 y1 y2 y3
   unfold impl_SameSet.l0
   repeat' first
   | (with_reducible exact ih0 _ _ _ _)
   | (with_reducible exact LeO.refl _)
   | (with_reducible exact LeO.none _)
   | (with_reducible refine LeO.ite ?_ ?_)
   | (with_reducible refine LeO.bind ?_ (fun _ => ?_))
   | exact ih0 _ _ _ _
   | exact LeO.none _
   | refine LeO.ite ?_ ?_
   | refine LeO.bind ?_ (fun _ => ?_)
theorem impl_SameSet.mono : ∀ a0 a1 k, LeO (impl_SameSet.f k a0 a1) (impl_SameSet.f (k + 1) a0 a1) := by
 intro a0 a1 k
 have ih0 := impl_SameSet.mono_l k
 unfold impl_SameSet.f
 repeat' first
   | (with_reducible exact ih0 _ _ _ _)
   | (with_reducible exact LeO.refl _)
   | (with_reducible exact LeO.none _)
   | (with_reducible refine LeO.ite ?_ ?_)
   | (with_reducible refine LeO.bind ?_ (fun _ => ?_))
   | exact ih0 _ _ _ _
   | exact LeO.none _
   | refine LeO.ite ?_ ?_
   | refine LeO.bind ?_ (fun _ => ?_)
set_option maxHeartbeats 8000000 in
set_option maxRecDepth 100000 in
theorem impl_SameSet.calls (k : Nat) (A0 : Option Addr) (c0 : Nat) (l0 : List (S89)) (A1 : Option Addr) (c1 : Nat) (l1 : List (S89)) (r : Bool) (w : World) (hr0 : Kd.C k89 w A0 l0.length l0) (hc0 : l0.length ≤ c0) (hr1 : Kd.C k89 w A1 l1.length l1) (hc1 : l1.length ≤ c1) (h : impl_SameSet.f k l0 l1 = some r) :
  Calls Try.prog 17 #[.slice A0 l0.length c0, .slice A1 l1.length c1] w fun e w' => e = .returned (.bool r) ∧ Drawn0 w w' := by
 have hu89 := Try.underlying89
 have HR0 := aM hr0
 have HC0 := aM hc0
 clear hr0 hc0
 have HR1 := aM hr1
 have HC1 := aM hc1
 clear hr1 hc1
 have H : (if (l0.length : Int) = (l1.length : Int) then (impl_SameSet.l0 k l0 l1 (l0.length : Int) 0) else (some false)) = some r := h
 clear h
 by_cases c3 : (l0.length : Int) = (l1.length : Int)
 ·rw [if_pos c3] at H
  have c3b0 : ((l0.length : Int) == (l1.length : Int)) = true := beq_iff_eq.mpr c3
  have c3b1 : ((l0.length : Int) != (l1.length : Int)) = false := bne_eq_false_iff_eq.mpr c3
  have c3b2 : (l0.length == l1.length) = true := by first | simpa using c3 | (simp at c3 ⊢; omega)
  clear c3
  have H' := aM H
  clear H
  go_enter Try.func17, Try.ntmps17
  go_wp2
  repeat (go_quiet (fail); try go_wp2)
  go_loopg [13] k (fun kq v13 w' => ∃ (x13_1 : Int), v13 = .int .i64 x13_1 ∧ Aside0 (impl_SameSet.l0 kq l0 l1 (l0.length : Int) x13_1 = some r) ∧ Aside0 (kq ≤ k) ∧ Drawn0 w w')
  case atStart => exact ⟨(0), (by first | rfl | (simp; done) | (simp [*]; done)), H', ⟨Nat.le_refl _⟩, by repeat (first | exact Drawn0.refl _ | apply Drawn0.step)⟩
  case round =>
   clear H'
   try clear c1
   try clear p2
   try clear c3
   try clear c3b0
   try clear c3b1
   try clear c3b2
   obtain ⟨x13_1, rfl, HA, HK1, ⟨m1, rfl⟩⟩ := hrel
   cases gk with
   | zero => exact absurd HA.out (by simp [impl_SameSet.l0])
   | succ k1 =>
    have H := HA.out
    clear HA
    simp only [impl_SameSet.l0] at H
    by_cases c4 : x13_1 < (l0.length : Int)
    ·rw [if_pos c4] at H; have c4b0 : decide (x13_1 < (l0.length : Int)) = true := decide_eq_true c4; clear c4
     by_cases c5 : 0 ≤ x13_1
     ·rw [if_pos c5] at H; have c5b0 : decide (0 ≤ x13_1) = true := decide_eq_true c5; clear c5
      by_cases c6 : x13_1 < (l0.length : Int)
      ·rw [if_pos c6] at H; have c6b0 : decide (x13_1 < (l0.length : Int)) = true := decide_eq_true c6; clear c6
       by_cases c7 : x13_1 < (l1.length : Int)
       ·rw [if_pos c7] at H; have c7b0 : decide (x13_1 < (l1.length : Int)) = true := decide_eq_true c7; clear c7
        by_cases c8 : (!((((rd_T89 l0 x13_1).f0).toList) == (((rd_T89 l1 x13_1).f0).toList)) || (!((((rd_T89 l0 x13_1).f1).toList) == (((rd_T89 l1 x13_1).f1).toList)))) = true
        ·rw [if_pos c8] at H
         have c8b0 : (!((((rd_T89 l0 x13_1).f0).toList) == (((rd_T89 l1 x13_1).f0).toList)) || (!((((rd_T89 l0 x13_1).f1).toList) == (((rd_T89 l1 x13_1).f1).toList)))) = true := c8
         clear c8
         obtain rfl := Option.some.inj H
         have p286 : 0 ≤ (x13_1 : Int) := of_decide_eq_true (by first | (with_reducible assumption) | assumption)
         have q286 : x13_1 < (l0.length : Int) := of_decide_eq_true (by first | (with_reducible assumption) | assumption)
         obtain ⟨ad286, e286, hx286_0, hx286_1⟩ := at_T89 HR0.out x13_1 p286 q286
         cases e286
         replace p286 := eq_true p286
         replace q286 := eq_true q286
         have p287 : 0 ≤ (x13_1 : Int) := of_decide_eq_true (by first | (with_reducible assumption) | assumption)
         have q287 : x13_1 < (l1.length : Int) := of_decide_eq_true (by first | (with_reducible assumption) | assumption)
         obtain ⟨ad287, e287, hx287_0, hx287_1⟩ := at_T89 HR1.out x13_1 p287 q287
         cases e287
         replace p287 := eq_true p287
         replace q287 := eq_true q287
         go_wp2
         repeat (go_quiet (fail); try go_wp2)
         go_ret
         exact ⟨by first | rfl | (simp; done) | (simp [*]; done), by repeat (first | exact Drawn0.refl _ | apply Drawn0.step)⟩
        ·rw [if_neg c8] at H
         have c8b0 : (!((((rd_T89 l0 x13_1).f0).toList) == (((rd_T89 l1 x13_1).f0).toList)) || (!((((rd_T89 l0 x13_1).f1).toList) == (((rd_T89 l1 x13_1).f1).toList)))) = false := by simpa using c8
         clear c8
         have H' := aM H
         clear H
         have p286 : 0 ≤ (x13_1 : Int) := of_decide_eq_true (by first | (with_reducible assumption) | assumption)
         have q286 : x13_1 < (l0.length : Int) := of_decide_eq_true (by first | (with_reducible assumption) | assumption)
         obtain ⟨ad286, e286, hx286_0, hx286_1⟩ := at_T89 HR0.out x13_1 p286 q286
         cases e286
         replace p286 := eq_true p286
         replace q286 := eq_true q286
         have p287 : 0 ≤ (x13_1 : Int) := of_decide_eq_true (by first | (with_reducible assumption) | assumption)
         have q287 : x13_1 < (l1.length : Int) := of_decide_eq_true (by first | (with_reducible assumption) | assumption)
         obtain ⟨ad287, e287, hx287_0, hx287_1⟩ := at_T89 HR1.out x13_1 p287 q287
         cases e287
         replace p287 := eq_true p287
         replace q287 := eq_true q287
         go_wp2
         repeat (go_quiet (fail); try go_wp2)
         go_roundg k1
         case measure => have := HK1.out; omega
         case rel => exact ⟨(wrap64 (x13_1 + 1)), (by first | rfl | (simp; done) | (simp [*]; done)), H', ⟨by have := HK1.out; omega⟩, by repeat (first | exact Drawn0.refl _ | apply Drawn0.step)⟩
       ·rw [if_neg c7] at H
        exact absurd H (by simp)
      ·rw [if_neg c6] at H
       exact absurd H (by simp)
     ·rw [if_neg c5] at H
      exact absurd H (by simp)
    ·rw [if_neg c4] at H; have c4b0 : decide (x13_1 < (l0.length : Int)) = false := decide_eq_false c4; clear c4
     obtain rfl := Option.some.inj H
     go_wp2
     repeat (go_quiet (fail); try go_wp2)
     go_ret
     exact ⟨by first | rfl | (simp; done) | (simp [*]; done), by repeat (first | exact Drawn0.refl _ | apply Drawn0.step)⟩
 ·rw [if_neg c3] at H
  have c3b0 : ((l0.length : Int) == (l1.length : Int)) = false := beq_eq_false_iff_ne.mpr c3
  have c3b1 : ((l0.length : Int) != (l1.length : Int)) = true := bne_iff_ne.mpr c3
  have c3b2 : (l0.length == l1.length) = false := by first | simpa using c3 | (simp at c3 ⊢; omega)
  obtain rfl := Option.some.inj H
  go_enter Try.func17, Try.ntmps17
  go_wp2
  repeat (go_quiet (fail); try go_wp2)
  go_ret
  exact ⟨by first | rfl | (simp; done) | (simp [*]; done), by repeat (first | exact Drawn0.refl _ | apply Drawn0.step)⟩

/-! ### impl_labelsAt: function 91 -/
def impl_labelsAt.l0 : Nat → List (S89) → List (S26) → Int → Int → Option (Int)
 | 0, _, _, _, _ => none
 | k + 1, x1, x7, x8, x9 => if x9 < x8 then (if 0 ≤ x9 then (if x9 < (x7.length : Int) then ((impl_SameSet.f k ((rd_T26 x7 x9).f0) x1).bind fun t290 => (if t290 = true then (some x9) else (impl_labelsAt.l0 k x1 x7 x8 (wrap64 (x9 + 1))))) else (none)) else (none)) else (some (-1))
def impl_labelsAt.f (k : Nat) (l0 : List (S26)) (l1 : List (S89)) : Option (Int) := impl_labelsAt.l0 k l1 l0 (l0.length : Int) 0
theorem impl_labelsAt.mono_l : ∀ k, (∀ y0 y1 y2 y3, LeO (impl_labelsAt.l0 k y0 y1 y2 y3) (impl_labelsAt.l0 (k + 1) y0 y1 y2 y3))
 | 0 => fun _ _ _ _ r h => by simp [impl_labelsAt.l0] at h
 | k + 1 => by
  have ih0 := impl_labelsAt.mono_l k
  ·intro y0 y1 y2 y3
   unfold impl_labelsAt.l0
   repeat' first
   | (with_reducible exact ih0 _ _ _ _)
   | (with_reducible exact impl_SameSet.mono _ _ _)
   | (with_reducible exact LeO.refl _)
   | (with_reducible exact LeO.none _)
   | (with_reducible refine LeO.ite ?_ ?_)
   | (with_reducible refine LeO.bind ?_ (fun _ => ?_))
   | exact ih0 _ _ _ _
   | exact impl_SameSet.mono _ _ _
   | exact LeO.none _
   | refine LeO.ite ?_ ?_
   | refine LeO.bind ?_ (fun _ => ?_)
theorem impl_labelsAt.mono : ∀ a0 a1 k, LeO (impl_labelsAt.f k a0 a1) (impl_labelsAt.f (k + 1) a0 a1) := by
 intro a0 a1 k
 have ih0 := impl_labelsAt.mono_l k
 unfold impl_labelsAt.f
 repeat' first
   | (with_reducible exact ih0 _ _ _ _)
   | (with_reducible exact impl_SameSet.mono _ _ _)
   | (with_reducible exact LeO.refl _)
   | (with_reducible exact LeO.none _)
   | (with_reducible refine LeO.ite ?_ ?_)
   | (with_reducible refine LeO.bind ?_ (fun _ => ?_))
   | exact ih0 _ _ _ _
   | exact impl_SameSet.mono _ _ _
   | exact LeO.none _
   | refine LeO.ite ?_ ?_
   | refine LeO.bind ?_ (fun _ => ?_)
set_option maxHeartbeats 8000000 in
set_option maxRecDepth 100000 in
theorem impl_labelsAt.calls (k : Nat) (A0 : Option Addr) (c0 : Nat) (l0 : List (S26)) (A1 : Option Addr) (c1 : Nat) (l1 : List (S89)) (r : Int) (w : World) (hr0 : Kd.C k26 w A0 l0.length l0) (hc0 : l0.length ≤ c0) (hr1 : Kd.C k89 w A1 l1.length l1) (hc1 : l1.length ≤ c1) (h : impl_labelsAt.f k l0 l1 = some r) :
  Calls Try.prog 91 #[.slice A0 l0.length c0, .slice A1 l1.length c1] w fun e w' => e = .returned (.int .i64 r) ∧ Below w.heap.size w w' := by
 have hu26 := Try.underlying26
 have HR0 := aM hr0
 have HC0 := aM hc0
 clear hr0 hc0
 have HR1 := aM hr1
 have HC1 := aM hc1
 clear hr1 hc1
 have HB := aM (Below.refl w.heap.size w)
 have H : (impl_labelsAt.l0 k l1 l0 (l0.length : Int) 0) = some r := h
 clear h
 have H' := aM H
 clear H
 go_enter Try.func91, Try.ntmps91
 go_wp2
 go_loopg [9] k (fun kq v9 w' => ∃ (x9_1 : Int), v9 = .int .i64 x9_1 ∧ Aside0 (impl_labelsAt.l0 kq l1 l0 (l0.length : Int) x9_1 = some r) ∧ Aside0 (kq ≤ k) ∧ Aside0 (Below w.heap.size w w'))
 case atStart => exact ⟨(0), (by first | rfl | (simp; done) | (simp [*]; done)), H', ⟨Nat.le_refl _⟩, ⟨by repeat (first | (with_reducible first | exact HB.out | apply aW1 | apply aW2 | apply aW3) | exact HB.out)⟩⟩
 case round =>
  clear H'
  try clear c1
  try clear p2
  obtain ⟨x9_1, rfl, HA, HK1, HB⟩ := hrel
  cases gk with
  | zero => exact absurd HA.out (by simp [impl_labelsAt.l0])
  | succ k1 =>
   have H := HA.out
   clear HA
   simp only [impl_labelsAt.l0] at H
   by_cases c3 : x9_1 < (l0.length : Int)
   ·rw [if_pos c3] at H; have c3b0 : decide (x9_1 < (l0.length : Int)) = true := decide_eq_true c3; clear c3
    by_cases c4 : 0 ≤ x9_1
    ·rw [if_pos c4] at H; have c4b0 : decide (0 ≤ x9_1) = true := decide_eq_true c4; clear c4
     by_cases c5 : x9_1 < (l0.length : Int)
     ·rw [if_pos c5] at H; have c5b0 : decide (x9_1 < (l0.length : Int)) = true := decide_eq_true c5; clear c5; replace H := Option.bind_eq_some_iff.mp H; obtain ⟨t290, A60, H⟩ := H; try dsimp only at H
      have A6 := aM A60
      clear A60
      by_cases c7 : t290 = true
      ·subst c7
       have H1 : (some x9_1) = some r := by rw [if_pos rfl] at H; exact H
       clear H
       have H := H1
       clear H1
       obtain rfl := Option.some.inj H
       have p288 : 0 ≤ (x9_1 : Int) := of_decide_eq_true (by first | (with_reducible assumption) | assumption)
       have q288 : x9_1 < (l0.length : Int) := of_decide_eq_true (by first | (with_reducible assumption) | assumption)
       obtain ⟨ad288, A288_0, c288_0, e288, hx288_0, hx288_1, hx288_2, hx288_3, hl288_0, hi288_0⟩ := at_T26 HR0.out x9_1 p288 q288
       cases e288
       replace hx288_0 := (HB.out.cell (World.block_lt_of_cell? w _ hx288_0)).trans hx288_0
       replace hx288_1 := (HB.out.cell (World.block_lt_of_cell? w _ hx288_1)).trans hx288_1
       replace hx288_2 := (HB.out.cell (World.block_lt_of_cell? w _ hx288_2)).trans hx288_2
       replace hx288_3 := (HB.out.cell (World.block_lt_of_cell? w _ hx288_3)).trans hx288_3
       have HR288_0 := aM hi288_0
       have HC288_0 := aM hl288_0
       clear hi288_0 hl288_0
       replace p288 := eq_true p288
       replace q288 := eq_true q288
       go_wp2_with (first | ((with_reducible refine gate_dst (N := 6) rfl ?_); refine box_event ?hg (N := 6) ?hd (cs := #[.slice none 0 0, .int .i64 0, .int .i64 0, .string (⟨#[]⟩ : ByteArray)]) (t := 26) ?hr ?_; (case hd => rfl); (case hg => rfl); (case hr => first | (go_simp; done) | (go_simp; rfl)); intro gb289 hg w8 hbox hb; have n0_ := aM (below_step (by repeat (first | (with_reducible first | exact HB.out | apply aW1 | apply aW2 | apply aW3) | exact HB.out)) hb); have n1_ := aM (hbox); have n2_ := aM ((by rw [hg]; exact (below_size (by repeat (first | (with_reducible first | exact HB.out | apply aW1 | apply aW2 | apply aW3) | exact HB.out))) : w.heap.size ≤ gb289)); have n3_ := aM ((by rw [hg]; exact (below_size (by repeat (first | (with_reducible first | exact HB.out | apply aW1 | apply aW2 | apply aW3) | exact HB.out))) : w.heap.size ≤ gb289)); clear HB; have HB := n0_; have BK289 := n1_; have GW289 := n2_; have GE289 := n3_; clear n0_ n1_ n2_ n3_ hb hbox hg; have hcz9_0 := cz4_0 BK289; have hcz9_1 := cz4_1 BK289; have hcz9_2 := cz4_2 BK289; have hcz9_3 := cz4_3 BK289; have hfz9_0 := blk_frozen BK289.out 0; have hfz9_1 := blk_frozen BK289.out 1; have hfz9_2 := blk_frozen BK289.out 2; have hfz9_3 := blk_frozen BK289.out 3) | ((with_reducible refine gate_callee (f := 17) rfl ?_); refine goesL_ (some 17) rfl rfl Try.func17 (by kernel_rfl) rfl #[.slice A288_0 ((rd_T26 l0 x9_1).f0).length c288_0, .slice A1 l1.length c1] rfl (by (try simp only [List.map_toArray, List.map_cons, List.map_nil]); first | done | rfl | (simp only [List.length_drop, List.length_take]; rfl)) ?_; (with_reducible refine (impl_SameSet.calls k1 _ _ ((rd_T26 l0 x9_1).f0) _ _ l1 true _ ?side1 ?side2 ?side3 ?side4 A6.out).mono ?_); (case side1 => exact Kd.C_below HR288_0.out (by repeat (first | (with_reducible first | exact HB.out | apply aW1 | apply aW2 | apply aW3 | refine below_set ?_ GE289.out) | exact HB.out))); (case side2 => exact HC288_0.out); (case side3 => exact Kd.C_below HR1.out (by repeat (first | (with_reducible first | exact HB.out | apply aW1 | apply aW2 | apply aW3 | refine below_set ?_ GE289.out) | exact HB.out))); (case side4 => exact HC1.out); rintro e w' ⟨rfl, ⟨nd, rfl⟩⟩; refine ⟨_, rfl, ?_⟩))
       go_ret
       exact ⟨by first | rfl | (simp [errW_none, errW_some] <;> rfl) | (simp [*, errW_none, errW_some] <;> rfl), by repeat (first | (with_reducible first | exact HB.out | apply aW1 | apply aW2 | apply aW3 | refine below_set ?_ GE289.out) | exact HB.out)⟩
      ·replace c7 := Bool.eq_false_iff.mpr c7
       subst c7
       have H1 : (impl_labelsAt.l0 k1 l1 l0 (l0.length : Int) (wrap64 (x9_1 + 1))) = some r := by rw [if_neg (show ¬ (false = true) by decide)] at H; exact H
       clear H
       have H := H1
       clear H1
       have H' := aM H
       clear H
       have p288 : 0 ≤ (x9_1 : Int) := of_decide_eq_true (by first | (with_reducible assumption) | assumption)
       have q288 : x9_1 < (l0.length : Int) := of_decide_eq_true (by first | (with_reducible assumption) | assumption)
       obtain ⟨ad288, A288_0, c288_0, e288, hx288_0, hx288_1, hx288_2, hx288_3, hl288_0, hi288_0⟩ := at_T26 HR0.out x9_1 p288 q288
       cases e288
       replace hx288_0 := (HB.out.cell (World.block_lt_of_cell? w _ hx288_0)).trans hx288_0
       replace hx288_1 := (HB.out.cell (World.block_lt_of_cell? w _ hx288_1)).trans hx288_1
       replace hx288_2 := (HB.out.cell (World.block_lt_of_cell? w _ hx288_2)).trans hx288_2
       replace hx288_3 := (HB.out.cell (World.block_lt_of_cell? w _ hx288_3)).trans hx288_3
       have HR288_0 := aM hi288_0
       have HC288_0 := aM hl288_0
       clear hi288_0 hl288_0
       replace p288 := eq_true p288
       replace q288 := eq_true q288
       go_wp2_with (first | ((with_reducible refine gate_dst (N := 6) rfl ?_); refine box_event ?hg (N := 6) ?hd (cs := #[.slice none 0 0, .int .i64 0, .int .i64 0, .string (⟨#[]⟩ : ByteArray)]) (t := 26) ?hr ?_; (case hd => rfl); (case hg => rfl); (case hr => first | (go_simp; done) | (go_simp; rfl)); intro gb289 hg w10 hbox hb; have n0_ := aM (below_step (by repeat (first | (with_reducible first | exact HB.out | apply aW1 | apply aW2 | apply aW3) | exact HB.out)) hb); have n1_ := aM (hbox); have n2_ := aM ((by rw [hg]; exact (below_size (by repeat (first | (with_reducible first | exact HB.out | apply aW1 | apply aW2 | apply aW3) | exact HB.out))) : w.heap.size ≤ gb289)); have n3_ := aM ((by rw [hg]; exact (below_size (by repeat (first | (with_reducible first | exact HB.out | apply aW1 | apply aW2 | apply aW3) | exact HB.out))) : w.heap.size ≤ gb289)); clear HB; have HB := n0_; have BK289 := n1_; have GW289 := n2_; have GE289 := n3_; clear n0_ n1_ n2_ n3_ hb hbox hg; have hcz11_0 := cz4_0 BK289; have hcz11_1 := cz4_1 BK289; have hcz11_2 := cz4_2 BK289; have hcz11_3 := cz4_3 BK289; have hfz11_0 := blk_frozen BK289.out 0; have hfz11_1 := blk_frozen BK289.out 1; have hfz11_2 := blk_frozen BK289.out 2; have hfz11_3 := blk_frozen BK289.out 3) | ((with_reducible refine gate_callee (f := 17) rfl ?_); refine goesL_ (some 17) rfl rfl Try.func17 (by kernel_rfl) rfl #[.slice A288_0 ((rd_T26 l0 x9_1).f0).length c288_0, .slice A1 l1.length c1] rfl (by (try simp only [List.map_toArray, List.map_cons, List.map_nil]); first | done | rfl | (simp only [List.length_drop, List.length_take]; rfl)) ?_; (with_reducible refine (impl_SameSet.calls k1 _ _ ((rd_T26 l0 x9_1).f0) _ _ l1 false _ ?side1 ?side2 ?side3 ?side4 A6.out).mono ?_); (case side1 => exact Kd.C_below HR288_0.out (by repeat (first | (with_reducible first | exact HB.out | apply aW1 | apply aW2 | apply aW3 | refine below_set ?_ GE289.out) | exact HB.out))); (case side2 => exact HC288_0.out); (case side3 => exact Kd.C_below HR1.out (by repeat (first | (with_reducible first | exact HB.out | apply aW1 | apply aW2 | apply aW3 | refine below_set ?_ GE289.out) | exact HB.out))); (case side4 => exact HC1.out); rintro e w' ⟨rfl, ⟨nd, rfl⟩⟩; refine ⟨_, rfl, ?_⟩))
       go_roundg k1
       case measure => have := HK1.out; omega
       case rel => exact ⟨(wrap64 (x9_1 + 1)), (by first | rfl | (simp; done) | (simp [*]; done)), H', ⟨by have := HK1.out; omega⟩, ⟨by repeat (first | (with_reducible first | exact HB.out | apply aW1 | apply aW2 | apply aW3 | refine below_set ?_ GE289.out) | exact HB.out)⟩⟩
     ·rw [if_neg c5] at H
      exact absurd H (by simp)
    ·rw [if_neg c4] at H
     exact absurd H (by simp)
   ·rw [if_neg c3] at H; have c3b0 : decide (x9_1 < (l0.length : Int)) = false := decide_eq_false c3; clear c3
    obtain rfl := Option.some.inj H
    go_wp2
    go_ret
    exact ⟨by first | rfl | (simp [errW_none, errW_some] <;> rfl) | (simp [*, errW_none, errW_some] <;> rfl), by repeat (first | (with_reducible first | exact HB.out | apply aW1 | apply aW2 | apply aW3) | exact HB.out)⟩

/-! ### impl_InChain: function 79 -/
def impl_InChain.f (k : Nat) (a0_0 : Int) (l0_1 : List (S26)) (l1 : List (S89)) : Option (Int) := (impl_labelsAt.f k l0_1 l1).bind fun t292 => (some t292)
theorem impl_InChain.mono : ∀ a0 a1 a2 k, LeO (impl_InChain.f k a0 a1 a2) (impl_InChain.f (k + 1) a0 a1 a2) := by
 intro a0 a1 a2 k
 unfold impl_InChain.f
 repeat' first
   | (with_reducible exact impl_labelsAt.mono _ _ _)
   | (with_reducible exact LeO.refl _)
   | (with_reducible exact LeO.none _)
   | (with_reducible refine LeO.ite ?_ ?_)
   | (with_reducible refine LeO.bind ?_ (fun _ => ?_))
   | exact impl_labelsAt.mono _ _ _
   | exact LeO.none _
   | refine LeO.ite ?_ ?_
   | refine LeO.bind ?_ (fun _ => ?_)
set_option maxHeartbeats 8000000 in
set_option maxRecDepth 100000 in
theorem impl_InChain.calls (k : Nat) (a0_0 : Int) (A0_1 : Option Addr) (c0_1 : Nat) (l0_1 : List (S26)) (A1 : Option Addr) (c1 : Nat) (l1 : List (S89)) (r : Int) (w : World) (hr0_1 : Kd.C k26 w A0_1 l0_1.length l0_1) (hc0_1 : l0_1.length ≤ c0_1) (hr1 : Kd.C k89 w A1 l1.length l1) (hc1 : l1.length ≤ c1) (h : impl_InChain.f k a0_0 l0_1 l1 = some r) :
  Calls Try.prog 79 #[.agg #[.int .i64 a0_0, .slice A0_1 l0_1.length c0_1], .slice A1 l1.length c1] w fun e w' => e = .returned (.int .i64 r) ∧ Below w.heap.size w w' := by
 have hu39 := Try.underlying39
 have HR0_1 := aM hr0_1
 have HC0_1 := aM hc0_1
 clear hr0_1 hc0_1
 have HR1 := aM hr1
 have HC1 := aM hc1
 clear hr1 hc1
 have HB := aM (Below.refl w.heap.size w)
 have H : ((impl_labelsAt.f k l0_1 l1).bind fun t292 => (some t292)) = some r := h
 clear h; replace H := Option.bind_eq_some_iff.mp H; obtain ⟨t292, A30, H⟩ := H; try dsimp only at H
 have A3 := aM A30
 clear A30
 obtain rfl := Option.some.inj H
 go_enter Try.func79, Try.ntmps79
 go_wp2_with (first | ((with_reducible refine gate_dst (N := 2) rfl ?_); refine box_event ?hg (N := 2) ?hd (cs := #[.int .i64 a0_0, .slice A0_1 l0_1.length c0_1]) (t := 39) ?hr ?_; (case hd => rfl); (case hg => rfl); (case hr => first | (go_simp; done) | (go_simp; rfl)); intro gb291 hg w4 hbox hb; have n0_ := aM (below_step (by repeat (first | (with_reducible first | exact HB.out | apply aW1 | apply aW2 | apply aW3) | exact HB.out)) hb); have n1_ := aM (hbox); have n2_ := aM ((by rw [hg]; exact (below_size (by repeat (first | (with_reducible first | exact HB.out | apply aW1 | apply aW2 | apply aW3) | exact HB.out))) : w.heap.size ≤ gb291)); have n3_ := aM ((by rw [hg]; exact (below_size (by repeat (first | (with_reducible first | exact HB.out | apply aW1 | apply aW2 | apply aW3) | exact HB.out))) : w.heap.size ≤ gb291)); clear HB; have HB := n0_; have BK291 := n1_; have GW291 := n2_; have GE291 := n3_; clear n0_ n1_ n2_ n3_ hb hbox hg; have hcz5_0 := cz2_0 BK291; have hcz5_1 := cz2_1 BK291; have hfz5_0 := blk_frozen BK291.out 0; have hfz5_1 := blk_frozen BK291.out 1) | ((with_reducible refine gate_callee (f := 91) rfl ?_); refine goesL_ (some 8) rfl rfl Try.func91 (by kernel_rfl) rfl #[.slice A0_1 l0_1.length c0_1, .slice A1 l1.length c1] rfl (by (try simp only [List.map_toArray, List.map_cons, List.map_nil]); first | done | rfl | (simp only [List.length_drop, List.length_take]; rfl)) ?_; (with_reducible refine (impl_labelsAt.calls k _ _ l0_1 _ _ l1 t292 _ ?side1 ?side2 ?side3 ?side4 A3.out).mono ?_); (case side1 => repeat (first | exact (Kd.C_below HR0_1.out HB.out) | (with_reducible refine Kd.C_alloc ?_ _) | (with_reducible refine Kd.C_drewN ?_ _) | (with_reducible refine Kd.C_drew ?_))); (case side2 => exact HC0_1.out); (case side3 => repeat (first | exact (Kd.C_below HR1.out HB.out) | (with_reducible refine Kd.C_alloc ?_ _) | (with_reducible refine Kd.C_drewN ?_ _) | (with_reducible refine Kd.C_drew ?_))); (case side4 => exact HC1.out); rintro e w6 ⟨rfl, hb⟩; refine ⟨_, rfl, ?_⟩; have n0_ := bb BK291 hb; have n1_ := aM (below_step (by repeat (first | (with_reducible first | exact HB.out | apply aW1 | apply aW2 | apply aW3 | refine below_set ?_ GE291.out) | exact HB.out)) hb); clear BK291 HB; have BK291 := n0_; have HB := n1_; clear n0_ n1_; (try clear hb); (try clear hb2); (try clear hk); (try clear hi)))
 go_ret
 exact ⟨by first | rfl | (simp [errW_none, errW_some] <;> rfl) | (simp [*, errW_none, errW_some] <;> rfl), by repeat (first | (with_reducible first | exact HB.out | apply aW1 | apply aW2 | apply aW3 | refine below_set ?_ GE291.out) | exact HB.out)⟩

end Go.Proofs.Ytgindocfjoalhaa.PFnExactPutChain
