/- What the Go functions that FnExactMerge reaches compute, as Lean functions, and that the machine's calls do so; no conditions. -/
import Derived.Test.YtglefglknlcojabPFnExactMergex0
import Derived.Test.YtglefglknlcojabPFnExactMergex1
import Derived.Test.YtglefglknlcojabPFnExactMergex2
import Derived.Test.YtglefglknlcojabPFnExactMergex3
namespace Go.Proofs.Ytglefglknlcojab.PFnExactMerge
open Go.RowKit Go.Proofs.YtglefglknlcojabW.PrintWords Go.Proofs.YtglefglknlcojabW.PrintLast Go.Proofs.YtglefglknlcojabW.PrintMore
attribute [local go_sem] max2_int min2_int max_two min_two max_three min_three max_four min_four   -- for this text's walks alone
set_option linter.unusedVariables false
set_option linter.unusedSimpArgs false

/-! ### laws_FnExactMerge: function 4 -/
def laws_FnExactMerge.j0 : Nat → Bool → List (S88) → Int → Int → ByteArray → List (S88) → Int → Int → ByteArray → List (S90) → Int → Int → ByteArray → List (S90) → Int → Int → ByteArray → Option (Bool)
 | 0, _, _, _, _, _, _, _, _, _, _, _, _, _, _, _, _, _ => none
 | k + 1, x63, x187000, x187001, x187002, x187003, x188000, x188001, x188002, x188003, x209000, x209001, x209002, x209003, x230000, x230001, x230002, x230003 => if x63 = true then (some false) else ((laws_markAlarm.f k x230000 x230001 x230002 x230003 1).bind fun bt250 => ((laws_heldAlarm.f k bt250.2 x230001 x230002 x230003 1).bind fun t252 => (if t252 < 0 then (some false) else (if t252 = bt250.1 then ((laws_toAlarm.f k x187000 x187001 x187002 x187003).bind fun bt253 => ((laws_toAlarm.f k x188000 x188001 x188002 x188003).bind fun bt259 => ((impl_Merge.f bt253.1 bt253.2.1 bt253.2.2.1 bt253.2.2.2 bt259.1 bt259.2.1 bt259.2.2.1 bt259.2.2.2).bind fun bt265 => ((laws_eqAlarm.f k bt265.1 bt265.2.1 bt265.2.2.1 bt265.2.2.2 x209000 x209001 x209002 x209003).bind fun t272 => (if t272 = true then ((laws_heldAlarm.f k bt250.2 x230001 x230002 x230003 1).bind fun t273 => (if t273 < 0 then (some false) else (if t273 = bt250.1 then (some true) else (some false)))) else (some false)))))) else (some false)))))
def laws_FnExactMerge.f (k : Nat) (l0_0 : List (S88)) (a0_1 : Int) (a0_2 : Int) (a0_3 : ByteArray) (l1_0 : List (S88)) (a1_1 : Int) (a1_2 : Int) (a1_3 : ByteArray) : Option (Bool) := (laws_szAlarm.f k l0_0 a0_1 a0_2 a0_3 1048576).bind fun t188 => (if t188 < 0 then (some true) else ((laws_szAlarm.f k l1_0 a1_1 a1_2 a1_3 t188).bind fun t189 => (if t189 < 0 then (some true) else ((laws_toAlarm.f k l0_0 a0_1 a0_2 a0_3).bind fun bt190 => ((laws_toAlarm.f k l1_0 a1_1 a1_2 a1_3).bind fun bt196 => ((spec_Merge.f bt190.1 bt190.2.1 bt190.2.2.1 bt190.2.2.2 bt196.1 bt196.2.1 bt196.2.2.1 bt196.2.2.2).bind fun bt202 => ((laws_toAlarm.f k l0_0 a0_1 a0_2 a0_3).bind fun bt209 => ((laws_toAlarm.f k l1_0 a1_1 a1_2 a1_3).bind fun bt216 => ((impl_Merge.f bt209.1 bt209.2.1 bt209.2.2.1 bt209.2.2.2 bt216.1 bt216.2.1 bt216.2.2.1 bt216.2.2.2).bind fun bt223 => ((laws_eqAlarm.f k bt223.1 bt223.2.1 bt223.2.2.1 bt223.2.2.2 bt202.1 bt202.2.1 bt202.2.2.1 bt202.2.2.2).bind fun t230 => (if t230 = true then ((laws_toAlarm.f k l0_0 a0_1 a0_2 a0_3).bind fun bt231 => ((laws_eqAlarm.f k bt209.1 bt209.2.1 bt209.2.2.1 bt209.2.2.2 bt231.1 bt231.2.1 bt231.2.2.1 bt231.2.2.2).bind fun t237 => (if t237 = true then ((laws_toAlarm.f k l1_0 a1_1 a1_2 a1_3).bind fun bt238 => ((laws_eqAlarm.f k bt216.1 bt216.2.1 bt216.2.2.1 bt216.2.2.2 bt238.1 bt238.2.1 bt238.2.2.1 bt238.2.2.2).bind fun t244 => (if t244 = true then ((laws_markAlarm.f k bt209.1 bt209.2.1 bt209.2.2.1 bt209.2.2.2 1).bind fun bt245 => ((laws_markAlarm.f k bt216.1 bt216.2.1 bt216.2.2.1 bt216.2.2.2 bt245.1).bind fun bt247 => (if bt247.1 < 0 then (laws_FnExactMerge.j0 k true l0_0 a0_1 a0_2 a0_3 l1_0 a1_1 a1_2 a1_3 bt202.1 bt202.2.1 bt202.2.2.1 bt202.2.2.2 bt223.1 bt223.2.1 bt223.2.2.1 bt223.2.2.2) else ((laws_eqAlarm.f k bt223.1 bt223.2.1 bt223.2.2.1 bt223.2.2.2 bt202.1 bt202.2.1 bt202.2.2.1 bt202.2.2.2).bind fun t249 => (laws_FnExactMerge.j0 k (!t249) l0_0 a0_1 a0_2 a0_3 l1_0 a1_1 a1_2 a1_3 bt202.1 bt202.2.1 bt202.2.2.1 bt202.2.2.2 bt223.1 bt223.2.1 bt223.2.2.1 bt223.2.2.2))))) else (some false)))) else (some false)))) else (some false))))))))))))
theorem laws_FnExactMerge.mono_l : ∀ k, (∀ y0 y1 y2 y3 y4 y5 y6 y7 y8 y9 y10 y11 y12 y13 y14 y15 y16, LeO (laws_FnExactMerge.j0 k y0 y1 y2 y3 y4 y5 y6 y7 y8 y9 y10 y11 y12 y13 y14 y15 y16) (laws_FnExactMerge.j0 (k + 1) y0 y1 y2 y3 y4 y5 y6 y7 y8 y9 y10 y11 y12 y13 y14 y15 y16))
 | 0 => fun _ _ _ _ _ _ _ _ _ _ _ _ _ _ _ _ _ r h => by simp [laws_FnExactMerge.j0] at h
 | k + 1 => by
  have ih0 := laws_FnExactMerge.mono_l k
  ·intro y0 y1 y2 y3 y4 y5 y6 y7 y8 y9 y10 y11 y12 y13 y14 y15 y16
   unfold laws_FnExactMerge.j0
   repeat' first
   | (with_reducible exact ih0 _ _ _ _ _ _ _ _ _ _ _ _ _ _ _ _ _)
   | (with_reducible exact laws_eqAlarm.mono _ _ _ _ _ _ _ _ _)
   | (with_reducible exact laws_heldAlarm.mono _ _ _ _ _ _)
   | (with_reducible exact laws_markAlarm.mono _ _ _ _ _ _)
   | (with_reducible exact laws_szAlarm.mono _ _ _ _ _ _)
   | (with_reducible exact laws_toAlarm.mono _ _ _ _ _)
   | (with_reducible exact LeO.refl _)
   | (with_reducible exact LeO.none _)
   | (with_reducible refine LeO.ite ?_ ?_)
   | (with_reducible refine LeO.bind ?_ (fun _ => ?_))
   | exact ih0 _ _ _ _ _ _ _ _ _ _ _ _ _ _ _ _ _
   | exact laws_eqAlarm.mono _ _ _ _ _ _ _ _ _
   | exact laws_heldAlarm.mono _ _ _ _ _ _
   | exact laws_markAlarm.mono _ _ _ _ _ _
   | exact laws_szAlarm.mono _ _ _ _ _ _
   | exact laws_toAlarm.mono _ _ _ _ _
   | exact LeO.none _
   | refine LeO.ite ?_ ?_
   | refine LeO.bind ?_ (fun _ => ?_)
theorem laws_FnExactMerge.mono : ∀ a0 a1 a2 a3 a4 a5 a6 a7 k, LeO (laws_FnExactMerge.f k a0 a1 a2 a3 a4 a5 a6 a7) (laws_FnExactMerge.f (k + 1) a0 a1 a2 a3 a4 a5 a6 a7) := by
 intro a0 a1 a2 a3 a4 a5 a6 a7 k
 have ih0 := laws_FnExactMerge.mono_l k
 unfold laws_FnExactMerge.f
 repeat' first
   | (with_reducible exact ih0 _ _ _ _ _ _ _ _ _ _ _ _ _ _ _ _ _)
   | (with_reducible exact laws_eqAlarm.mono _ _ _ _ _ _ _ _ _)
   | (with_reducible exact laws_heldAlarm.mono _ _ _ _ _ _)
   | (with_reducible exact laws_markAlarm.mono _ _ _ _ _ _)
   | (with_reducible exact laws_szAlarm.mono _ _ _ _ _ _)
   | (with_reducible exact laws_toAlarm.mono _ _ _ _ _)
   | (with_reducible exact LeO.refl _)
   | (with_reducible exact LeO.none _)
   | (with_reducible refine LeO.ite ?_ ?_)
   | (with_reducible refine LeO.bind ?_ (fun _ => ?_))
   | exact ih0 _ _ _ _ _ _ _ _ _ _ _ _ _ _ _ _ _
   | exact laws_eqAlarm.mono _ _ _ _ _ _ _ _ _
   | exact laws_heldAlarm.mono _ _ _ _ _ _
   | exact laws_markAlarm.mono _ _ _ _ _ _
   | exact laws_szAlarm.mono _ _ _ _ _ _
   | exact laws_toAlarm.mono _ _ _ _ _
   | exact LeO.none _
   | refine LeO.ite ?_ ?_
   | refine LeO.bind ?_ (fun _ => ?_)
set_option maxHeartbeats 8000000 in
set_option maxRecDepth 100000 in
theorem laws_FnExactMerge.calls (k : Nat) (A0_0 : Option Addr) (c0_0 : Nat) (l0_0 : List (S88)) (a0_1 : Int) (a0_2 : Int) (a0_3 : ByteArray) (A1_0 : Option Addr) (c1_0 : Nat) (l1_0 : List (S88)) (a1_1 : Int) (a1_2 : Int) (a1_3 : ByteArray) (r : Bool) (w : World) (hr0_0 : Kd.C k88 w A0_0 l0_0.length l0_0) (hc0_0 : l0_0.length ≤ c0_0) (hr1_0 : Kd.C k88 w A1_0 l1_0.length l1_0) (hc1_0 : l1_0.length ≤ c1_0) (hr_ : Aside0 (r = true)) (h : laws_FnExactMerge.f k l0_0 a0_1 a0_2 a0_3 l1_0 a1_1 a1_2 a1_3 = some r) :
  Calls Try.prog 4 #[.agg #[.slice A0_0 l0_0.length c0_0, .int .i64 a0_1, .int .i64 a0_2, .string a0_3], .agg #[.slice A1_0 l1_0.length c1_0, .int .i64 a1_1, .int .i64 a1_2, .string a1_3]] w fun e w' => e = .returned (.bool r) ∧ Below w.heap.size w w' := by
 have hu37 := Try.underlying37
 have hu41 := Try.underlying41
 have HR0_0 := aM hr0_0
 have HC0_0 := aM hc0_0
 clear hr0_0 hc0_0
 have HR1_0 := aM hr1_0
 have HC1_0 := aM hc1_0
 clear hr1_0 hc1_0
 have HB := aM (Below.refl w.heap.size w)
 have H : ((laws_szAlarm.f k l0_0 a0_1 a0_2 a0_3 1048576).bind fun t188 => (if t188 < 0 then (some true) else ((laws_szAlarm.f k l1_0 a1_1 a1_2 a1_3 t188).bind fun t189 => (if t189 < 0 then (some true) else ((laws_toAlarm.f k l0_0 a0_1 a0_2 a0_3).bind fun bt190 => ((laws_toAlarm.f k l1_0 a1_1 a1_2 a1_3).bind fun bt196 => ((spec_Merge.f bt190.1 bt190.2.1 bt190.2.2.1 bt190.2.2.2 bt196.1 bt196.2.1 bt196.2.2.1 bt196.2.2.2).bind fun bt202 => ((laws_toAlarm.f k l0_0 a0_1 a0_2 a0_3).bind fun bt209 => ((laws_toAlarm.f k l1_0 a1_1 a1_2 a1_3).bind fun bt216 => ((impl_Merge.f bt209.1 bt209.2.1 bt209.2.2.1 bt209.2.2.2 bt216.1 bt216.2.1 bt216.2.2.1 bt216.2.2.2).bind fun bt223 => ((laws_eqAlarm.f k bt223.1 bt223.2.1 bt223.2.2.1 bt223.2.2.2 bt202.1 bt202.2.1 bt202.2.2.1 bt202.2.2.2).bind fun t230 => (if t230 = true then ((laws_toAlarm.f k l0_0 a0_1 a0_2 a0_3).bind fun bt231 => ((laws_eqAlarm.f k bt209.1 bt209.2.1 bt209.2.2.1 bt209.2.2.2 bt231.1 bt231.2.1 bt231.2.2.1 bt231.2.2.2).bind fun t237 => (if t237 = true then ((laws_toAlarm.f k l1_0 a1_1 a1_2 a1_3).bind fun bt238 => ((laws_eqAlarm.f k bt216.1 bt216.2.1 bt216.2.2.1 bt216.2.2.2 bt238.1 bt238.2.1 bt238.2.2.1 bt238.2.2.2).bind fun t244 => (if t244 = true then ((laws_markAlarm.f k bt209.1 bt209.2.1 bt209.2.2.1 bt209.2.2.2 1).bind fun bt245 => ((laws_markAlarm.f k bt216.1 bt216.2.1 bt216.2.2.1 bt216.2.2.2 bt245.1).bind fun bt247 => (if bt247.1 < 0 then (laws_FnExactMerge.j0 k true l0_0 a0_1 a0_2 a0_3 l1_0 a1_1 a1_2 a1_3 bt202.1 bt202.2.1 bt202.2.2.1 bt202.2.2.2 bt223.1 bt223.2.1 bt223.2.2.1 bt223.2.2.2) else ((laws_eqAlarm.f k bt223.1 bt223.2.1 bt223.2.2.1 bt223.2.2.2 bt202.1 bt202.2.1 bt202.2.2.1 bt202.2.2.2).bind fun t249 => (laws_FnExactMerge.j0 k (!t249) l0_0 a0_1 a0_2 a0_3 l1_0 a1_1 a1_2 a1_3 bt202.1 bt202.2.1 bt202.2.2.1 bt202.2.2.2 bt223.1 bt223.2.1 bt223.2.2.1 bt223.2.2.2))))) else (some false)))) else (some false)))) else (some false))))))))))))) = some r := h
 clear h; replace H := Option.bind_eq_some_iff.mp H; obtain ⟨t188, A30, H⟩ := H; try dsimp only at H
 have A3 := aM A30
 clear A30
 by_cases c4 : t188 < 0
 ·rw [if_pos c4] at H; have c4b0 : decide (t188 < 0) = true := decide_eq_true c4; clear c4
  obtain rfl := Option.some.inj H
  go_enter Try.func4, Try.ntmps4
  go_wp2_with (first | ((with_reducible refine gate_dst (N := 2) rfl ?_); refine box_event ?hg (N := 2) ?hd (cs := #[.slice A0_0 l0_0.length c0_0, .int .i64 a0_1, .int .i64 a0_2, .string a0_3]) (t := 37) ?hr ?_; (case hd => rfl); (case hg => rfl); (case hr => first | (go_simp; done) | (go_simp; rfl)); intro gb186 hg w5 hbox hb; have n0_ := aM (below_step (by repeat (first | (with_reducible first | exact HB.out | apply aW1 | apply aW2 | apply aW3) | exact HB.out)) hb); have n1_ := aM (hbox); have n2_ := aM ((by rw [hg]; exact (below_size (by repeat (first | (with_reducible first | exact HB.out | apply aW1 | apply aW2 | apply aW3) | exact HB.out))) : w.heap.size ≤ gb186)); have n3_ := aM ((by rw [hg]; exact (below_size (by repeat (first | (with_reducible first | exact HB.out | apply aW1 | apply aW2 | apply aW3) | exact HB.out))) : w.heap.size ≤ gb186)); clear HB; have HB := n0_; have BK186 := n1_; have GW186 := n2_; have GE186 := n3_; clear n0_ n1_ n2_ n3_ hb hbox hg) | ((with_reducible refine gate_dst (N := 3) rfl ?_); refine box_event ?hg (N := 3) ?hd (cs := #[.slice A1_0 l1_0.length c1_0, .int .i64 a1_1, .int .i64 a1_2, .string a1_3]) (t := 37) ?hr ?_; (case hd => rfl); (case hg => rfl); (case hr => first | (go_simp; done) | (go_simp; rfl)); intro gb187 hg w6 hbox hb; have n0_ := bb BK186 hb; have n1_ := aM (below_step (by repeat (first | (with_reducible first | exact HB.out | apply aW1 | apply aW2 | apply aW3 | refine below_set ?_ GE186.out) | exact HB.out)) hb); have n2_ := aM (hbox); have n3_ := aM ((by rw [hg]; exact (below_size (by repeat (first | (with_reducible first | exact HB.out | apply aW1 | apply aW2 | apply aW3 | refine below_set ?_ GE186.out) | exact HB.out))) : w.heap.size ≤ gb187)); have n4_ := aM ((by rw [hg]; exact (below_size (by repeat (first | (with_reducible first | exact HB.out | apply aW1 | apply aW2 | apply aW3 | refine below_set ?_ GE186.out) | exact HB.out))) : w.heap.size ≤ gb187)); have n5_ := aM ((by rw [hg]; exact Nat.ne_of_lt (blk_lt (g := gb186) (aB BK186)) : gb186 ≠ gb187)); have n6_ := aM ((by rw [hg]; exact Nat.ne_of_gt (blk_lt (g := gb186) (aB BK186)) : gb187 ≠ gb186)); clear BK186 HB; have BK186 := n0_; have HB := n1_; have BK187 := n2_; have GW187 := n3_; have GE187 := n4_; have NB186_187 := n5_; have NB187_186 := n6_; clear n0_ n1_ n2_ n3_ n4_ n5_ n6_ hb hbox hg; have hnb7 := NB186_187.out; have hnc7 := NB187_186.out; have hcz8_0 := cz4_0 BK186; have hcz8_1 := cz4_1 BK186; have hcz8_2 := cz4_2 BK186; have hcz8_3 := cz4_3 BK186; have hfz8_0 := blk_frozen BK186.out 0; have hfz8_1 := blk_frozen BK186.out 1; have hfz8_2 := blk_frozen BK186.out 2; have hfz8_3 := blk_frozen BK186.out 3) | ((with_reducible refine gate_callee (f := 32) rfl ?_); refine goesL_ (some 16) rfl rfl Try.func32 (by kernel_rfl) rfl #[.agg #[.slice A0_0 l0_0.length c0_0, .int .i64 a0_1, .int .i64 a0_2, .string a0_3], .int .i64 1048576] rfl (by (try simp only [List.map_toArray, List.map_cons, List.map_nil]); first | done | rfl | (simp only [List.length_drop, List.length_take]; rfl)) ?_; (with_reducible refine (laws_szAlarm.calls k _ _ l0_0 a0_1 a0_2 a0_3 1048576 t188 _ ?side1 ?side2 A3.out).mono ?_); (case side1 => repeat (first | exact (Kd.C_below HR0_0.out HB.out) | (with_reducible refine Kd.C_alloc ?_ _) | (with_reducible refine Kd.C_drewN ?_ _) | (with_reducible refine Kd.C_drew ?_))); (case side2 => exact HC0_0.out); rintro e w9 ⟨rfl, hb⟩; refine ⟨_, rfl, ?_⟩; have n0_ := bb BK186 hb; have n1_ := bb BK187 hb; have n2_ := aM (below_step (by repeat (first | (with_reducible first | exact HB.out | apply aW1 | apply aW2 | apply aW3 | refine below_set ?_ GE186.out | refine below_set ?_ GE187.out) | exact HB.out)) hb); clear BK186 BK187 HB; have BK186 := n0_; have BK187 := n1_; have HB := n2_; clear n0_ n1_ n2_; (try clear hb); (try clear hb2); (try clear hk); (try clear hi)))
  go_ret
  exact ⟨by first | rfl | (simp [errW_none, errW_some] <;> rfl) | (simp [*, errW_none, errW_some] <;> rfl), by repeat (first | (with_reducible first | exact HB.out | apply aW1 | apply aW2 | apply aW3 | refine below_set ?_ GE186.out | refine below_set ?_ GE187.out) | exact HB.out)⟩
 ·rw [if_neg c4] at H; have c4b0 : decide (t188 < 0) = false := decide_eq_false c4; clear c4; replace H := Option.bind_eq_some_iff.mp H; obtain ⟨t189, A100, H⟩ := H; try dsimp only at H
  have A10 := aM A100
  clear A100
  by_cases c11 : t189 < 0
  ·rw [if_pos c11] at H; have c11b0 : decide (t189 < 0) = true := decide_eq_true c11; clear c11
   obtain rfl := Option.some.inj H
   go_enter Try.func4, Try.ntmps4
   go_wp2_with (first | ((with_reducible refine gate_dst (N := 2) rfl ?_); refine box_event ?hg (N := 2) ?hd (cs := #[.slice A0_0 l0_0.length c0_0, .int .i64 a0_1, .int .i64 a0_2, .string a0_3]) (t := 37) ?hr ?_; (case hd => rfl); (case hg => rfl); (case hr => first | (go_simp; done) | (go_simp; rfl)); intro gb186 hg w12 hbox hb; have n0_ := aM (below_step (by repeat (first | (with_reducible first | exact HB.out | apply aW1 | apply aW2 | apply aW3) | exact HB.out)) hb); have n1_ := aM (hbox); have n2_ := aM ((by rw [hg]; exact (below_size (by repeat (first | (with_reducible first | exact HB.out | apply aW1 | apply aW2 | apply aW3) | exact HB.out))) : w.heap.size ≤ gb186)); have n3_ := aM ((by rw [hg]; exact (below_size (by repeat (first | (with_reducible first | exact HB.out | apply aW1 | apply aW2 | apply aW3) | exact HB.out))) : w.heap.size ≤ gb186)); clear HB; have HB := n0_; have BK186 := n1_; have GW186 := n2_; have GE186 := n3_; clear n0_ n1_ n2_ n3_ hb hbox hg) | ((with_reducible refine gate_dst (N := 3) rfl ?_); refine box_event ?hg (N := 3) ?hd (cs := #[.slice A1_0 l1_0.length c1_0, .int .i64 a1_1, .int .i64 a1_2, .string a1_3]) (t := 37) ?hr ?_; (case hd => rfl); (case hg => rfl); (case hr => first | (go_simp; done) | (go_simp; rfl)); intro gb187 hg w13 hbox hb; have n0_ := bb BK186 hb; have n1_ := aM (below_step (by repeat (first | (with_reducible first | exact HB.out | apply aW1 | apply aW2 | apply aW3 | refine below_set ?_ GE186.out) | exact HB.out)) hb); have n2_ := aM (hbox); have n3_ := aM ((by rw [hg]; exact (below_size (by repeat (first | (with_reducible first | exact HB.out | apply aW1 | apply aW2 | apply aW3 | refine below_set ?_ GE186.out) | exact HB.out))) : w.heap.size ≤ gb187)); have n4_ := aM ((by rw [hg]; exact (below_size (by repeat (first | (with_reducible first | exact HB.out | apply aW1 | apply aW2 | apply aW3 | refine below_set ?_ GE186.out) | exact HB.out))) : w.heap.size ≤ gb187)); have n5_ := aM ((by rw [hg]; exact Nat.ne_of_lt (blk_lt (g := gb186) (aB BK186)) : gb186 ≠ gb187)); have n6_ := aM ((by rw [hg]; exact Nat.ne_of_gt (blk_lt (g := gb186) (aB BK186)) : gb187 ≠ gb186)); clear BK186 HB; have BK186 := n0_; have HB := n1_; have BK187 := n2_; have GW187 := n3_; have GE187 := n4_; have NB186_187 := n5_; have NB187_186 := n6_; clear n0_ n1_ n2_ n3_ n4_ n5_ n6_ hb hbox hg; have hnb14 := NB186_187.out; have hnc14 := NB187_186.out; have hcz15_0 := cz4_0 BK186; have hcz15_1 := cz4_1 BK186; have hcz15_2 := cz4_2 BK186; have hcz15_3 := cz4_3 BK186; have hfz15_0 := blk_frozen BK186.out 0; have hfz15_1 := blk_frozen BK186.out 1; have hfz15_2 := blk_frozen BK186.out 2; have hfz15_3 := blk_frozen BK186.out 3) | ((with_reducible refine gate_callee (f := 32) rfl ?_); refine goesL_ (some 16) rfl rfl Try.func32 (by kernel_rfl) rfl #[.agg #[.slice A0_0 l0_0.length c0_0, .int .i64 a0_1, .int .i64 a0_2, .string a0_3], .int .i64 1048576] rfl (by (try simp only [List.map_toArray, List.map_cons, List.map_nil]); first | done | rfl | (simp only [List.length_drop, List.length_take]; rfl)) ?_; (with_reducible refine (laws_szAlarm.calls k _ _ l0_0 a0_1 a0_2 a0_3 1048576 t188 _ ?side1 ?side2 A3.out).mono ?_); (case side1 => repeat (first | exact (Kd.C_below HR0_0.out HB.out) | (with_reducible refine Kd.C_alloc ?_ _) | (with_reducible refine Kd.C_drewN ?_ _) | (with_reducible refine Kd.C_drew ?_))); (case side2 => exact HC0_0.out); rintro e w16 ⟨rfl, hb⟩; refine ⟨_, rfl, ?_⟩; have n0_ := bb BK186 hb; have n1_ := bb BK187 hb; have n2_ := aM (below_step (by repeat (first | (with_reducible first | exact HB.out | apply aW1 | apply aW2 | apply aW3 | refine below_set ?_ GE186.out | refine below_set ?_ GE187.out) | exact HB.out)) hb); clear BK186 BK187 HB; have BK186 := n0_; have BK187 := n1_; have HB := n2_; clear n0_ n1_ n2_; (try clear hb); (try clear hb2); (try clear hk); (try clear hi); have hcz17_0 := cz4_0 BK187; have hcz17_1 := cz4_1 BK187; have hcz17_2 := cz4_2 BK187; have hcz17_3 := cz4_3 BK187; have hfz17_0 := blk_frozen BK187.out 0; have hfz17_1 := blk_frozen BK187.out 1; have hfz17_2 := blk_frozen BK187.out 2; have hfz17_3 := blk_frozen BK187.out 3) | ((with_reducible refine gate_callee (f := 32) rfl ?_); refine goesL_ (some 21) rfl rfl Try.func32 (by kernel_rfl) rfl #[.agg #[.slice A1_0 l1_0.length c1_0, .int .i64 a1_1, .int .i64 a1_2, .string a1_3], .int .i64 t188] rfl (by (try simp only [List.map_toArray, List.map_cons, List.map_nil]); first | done | rfl | (simp only [List.length_drop, List.length_take]; rfl)) ?_; (with_reducible refine (laws_szAlarm.calls k _ _ l1_0 a1_1 a1_2 a1_3 t188 t189 _ ?side1 ?side2 A10.out).mono ?_); (case side1 => repeat (first | exact (Kd.C_below HR1_0.out HB.out) | (with_reducible refine Kd.C_alloc ?_ _) | (with_reducible refine Kd.C_drewN ?_ _) | (with_reducible refine Kd.C_drew ?_))); (case side2 => exact HC1_0.out); rintro e w18 ⟨rfl, hb⟩; refine ⟨_, rfl, ?_⟩; have n0_ := bb BK186 hb; have n1_ := bb BK187 hb; have n2_ := aM (below_step (by repeat (first | (with_reducible first | exact HB.out | apply aW1 | apply aW2 | apply aW3 | refine below_set ?_ GE186.out | refine below_set ?_ GE187.out) | exact HB.out)) hb); clear BK186 BK187 HB; have BK186 := n0_; have BK187 := n1_; have HB := n2_; clear n0_ n1_ n2_; (try clear hb); (try clear hb2); (try clear hk); (try clear hi)))
   go_ret
   exact ⟨by first | rfl | (simp [errW_none, errW_some] <;> rfl) | (simp [*, errW_none, errW_some] <;> rfl), by repeat (first | (with_reducible first | exact HB.out | apply aW1 | apply aW2 | apply aW3 | refine below_set ?_ GE186.out | refine below_set ?_ GE187.out) | exact HB.out)⟩
  ·rw [if_neg c11] at H; have c11b0 : decide (t189 < 0) = false := decide_eq_false c11; clear c11; replace H := Option.bind_eq_some_iff.mp H
   obtain ⟨⟨t190, t193, t194, t195⟩, A190, H⟩ := H
   try dsimp only at H
   have A19 := aM A190
   clear A190; replace H := Option.bind_eq_some_iff.mp H
   obtain ⟨⟨t196, t199, t200, t201⟩, A200, H⟩ := H
   try dsimp only at H
   have A20 := aM A200
   clear A200; replace H := Option.bind_eq_some_iff.mp H
   obtain ⟨⟨t202, t205, t206, t207⟩, A210, H⟩ := H
   try dsimp only at H
   have A21 := aM A210
   clear A210; replace H := Option.bind_eq_some_iff.mp H
   obtain ⟨⟨t209, t212, t213, t214⟩, A220, H⟩ := H
   try dsimp only at H
   have A22 := aM A220
   clear A220; replace H := Option.bind_eq_some_iff.mp H
   obtain ⟨⟨t216, t219, t220, t221⟩, A230, H⟩ := H
   try dsimp only at H
   have A23 := aM A230
   clear A230; replace H := Option.bind_eq_some_iff.mp H
   obtain ⟨⟨t223, t226, t227, t228⟩, A240, H⟩ := H
   try dsimp only at H
   have A24 := aM A240
   clear A240; replace H := Option.bind_eq_some_iff.mp H; obtain ⟨t230, A250, H⟩ := H; try dsimp only at H
   have A25 := aM A250
   clear A250
   by_cases c26 : t230 = true
   ·subst c26
    have H1 : ((laws_toAlarm.f k l0_0 a0_1 a0_2 a0_3).bind fun bt231 => ((laws_eqAlarm.f k t209 t212 t213 t214 bt231.1 bt231.2.1 bt231.2.2.1 bt231.2.2.2).bind fun t237 => (if t237 = true then ((laws_toAlarm.f k l1_0 a1_1 a1_2 a1_3).bind fun bt238 => ((laws_eqAlarm.f k t216 t219 t220 t221 bt238.1 bt238.2.1 bt238.2.2.1 bt238.2.2.2).bind fun t244 => (if t244 = true then ((laws_markAlarm.f k t209 t212 t213 t214 1).bind fun bt245 => ((laws_markAlarm.f k t216 t219 t220 t221 bt245.1).bind fun bt247 => (if bt247.1 < 0 then (laws_FnExactMerge.j0 k true l0_0 a0_1 a0_2 a0_3 l1_0 a1_1 a1_2 a1_3 t202 t205 t206 t207 t223 t226 t227 t228) else ((laws_eqAlarm.f k t223 t226 t227 t228 t202 t205 t206 t207).bind fun t249 => (laws_FnExactMerge.j0 k (!t249) l0_0 a0_1 a0_2 a0_3 l1_0 a1_1 a1_2 a1_3 t202 t205 t206 t207 t223 t226 t227 t228))))) else (some false)))) else (some false)))) = some r := by rw [if_pos rfl] at H; exact H
    clear H
    have H := H1
    clear H1; replace H := Option.bind_eq_some_iff.mp H
    obtain ⟨⟨t231, t234, t235, t236⟩, A270, H⟩ := H
    try dsimp only at H
    have A27 := aM A270
    clear A270; replace H := Option.bind_eq_some_iff.mp H; obtain ⟨t237, A280, H⟩ := H; try dsimp only at H
    have A28 := aM A280
    clear A280
    by_cases c29 : t237 = true
    ·subst c29
     have H1 : ((laws_toAlarm.f k l1_0 a1_1 a1_2 a1_3).bind fun bt238 => ((laws_eqAlarm.f k t216 t219 t220 t221 bt238.1 bt238.2.1 bt238.2.2.1 bt238.2.2.2).bind fun t244 => (if t244 = true then ((laws_markAlarm.f k t209 t212 t213 t214 1).bind fun bt245 => ((laws_markAlarm.f k t216 t219 t220 t221 bt245.1).bind fun bt247 => (if bt247.1 < 0 then (laws_FnExactMerge.j0 k true l0_0 a0_1 a0_2 a0_3 l1_0 a1_1 a1_2 a1_3 t202 t205 t206 t207 t223 t226 t227 t228) else ((laws_eqAlarm.f k t223 t226 t227 t228 t202 t205 t206 t207).bind fun t249 => (laws_FnExactMerge.j0 k (!t249) l0_0 a0_1 a0_2 a0_3 l1_0 a1_1 a1_2 a1_3 t202 t205 t206 t207 t223 t226 t227 t228))))) else (some false)))) = some r := by rw [if_pos rfl] at H; exact H
     clear H
     have H := H1
     clear H1; replace H := Option.bind_eq_some_iff.mp H
     obtain ⟨⟨t238, t241, t242, t243⟩, A300, H⟩ := H
     try dsimp only at H
     have A30 := aM A300
     clear A300; replace H := Option.bind_eq_some_iff.mp H; obtain ⟨t244, A310, H⟩ := H; try dsimp only at H
     have A31 := aM A310
     clear A310
     by_cases c32 : t244 = true
     ·subst c32
      have H1 : ((laws_markAlarm.f k t209 t212 t213 t214 1).bind fun bt245 => ((laws_markAlarm.f k t216 t219 t220 t221 bt245.1).bind fun bt247 => (if bt247.1 < 0 then (laws_FnExactMerge.j0 k true l0_0 a0_1 a0_2 a0_3 l1_0 a1_1 a1_2 a1_3 t202 t205 t206 t207 t223 t226 t227 t228) else ((laws_eqAlarm.f k t223 t226 t227 t228 t202 t205 t206 t207).bind fun t249 => (laws_FnExactMerge.j0 k (!t249) l0_0 a0_1 a0_2 a0_3 l1_0 a1_1 a1_2 a1_3 t202 t205 t206 t207 t223 t226 t227 t228))))) = some r := by rw [if_pos rfl] at H; exact H
      clear H
      have H := H1
      clear H1; replace H := Option.bind_eq_some_iff.mp H
      obtain ⟨⟨t245, t246⟩, A330, H⟩ := H
      try dsimp only at H
      have A33 := aM A330
      clear A330; replace H := Option.bind_eq_some_iff.mp H
      obtain ⟨⟨t247, t248⟩, A340, H⟩ := H
      try dsimp only at H
      have A34 := aM A340
      clear A340
      have HC35 := aM H
      clear H
      go_enter Try.func4, Try.ntmps4
      try go_wp2_with (first | ((with_reducible refine gate_dst (N := 2) rfl ?_); refine box_event ?hg (N := 2) ?hd (cs := #[.slice A0_0 l0_0.length c0_0, .int .i64 a0_1, .int .i64 a0_2, .string a0_3]) (t := 37) ?hr ?_; (case hd => rfl); (case hg => rfl); (case hr => first | (go_simp; done) | (go_simp; rfl)); intro gb186 hg w36 hbox hb; have n0_ := aM (below_step (by repeat (first | (with_reducible first | exact HB.out | apply aW1 | apply aW2 | apply aW3) | exact HB.out)) hb); have n1_ := aM (hbox); have n2_ := aM ((by rw [hg]; exact (below_size (by repeat (first | (with_reducible first | exact HB.out | apply aW1 | apply aW2 | apply aW3) | exact HB.out))) : w.heap.size ≤ gb186)); have n3_ := aM ((by rw [hg]; exact (below_size (by repeat (first | (with_reducible first | exact HB.out | apply aW1 | apply aW2 | apply aW3) | exact HB.out))) : w.heap.size ≤ gb186)); clear HB; have HB := n0_; have BK186 := n1_; have GW186 := n2_; have GE186 := n3_; clear n0_ n1_ n2_ n3_ hb hbox hg) | ((with_reducible refine gate_dst (N := 3) rfl ?_); refine box_event ?hg (N := 3) ?hd (cs := #[.slice A1_0 l1_0.length c1_0, .int .i64 a1_1, .int .i64 a1_2, .string a1_3]) (t := 37) ?hr ?_; (case hd => rfl); (case hg => rfl); (case hr => first | (go_simp; done) | (go_simp; rfl)); intro gb187 hg w37 hbox hb; have n0_ := bb BK186 hb; have n1_ := aM (below_step (by repeat (first | (with_reducible first | exact HB.out | apply aW1 | apply aW2 | apply aW3 | refine below_set ?_ GE186.out) | exact HB.out)) hb); have n2_ := aM (hbox); have n3_ := aM ((by rw [hg]; exact (below_size (by repeat (first | (with_reducible first | exact HB.out | apply aW1 | apply aW2 | apply aW3 | refine below_set ?_ GE186.out) | exact HB.out))) : w.heap.size ≤ gb187)); have n4_ := aM ((by rw [hg]; exact (below_size (by repeat (first | (with_reducible first | exact HB.out | apply aW1 | apply aW2 | apply aW3 | refine below_set ?_ GE186.out) | exact HB.out))) : w.heap.size ≤ gb187)); have n5_ := aM ((by rw [hg]; exact Nat.ne_of_lt (blk_lt (g := gb186) (aB BK186)) : gb186 ≠ gb187)); have n6_ := aM ((by rw [hg]; exact Nat.ne_of_gt (blk_lt (g := gb186) (aB BK186)) : gb187 ≠ gb186)); clear BK186 HB; have BK186 := n0_; have HB := n1_; have BK187 := n2_; have GW187 := n3_; have GE187 := n4_; have NB186_187 := n5_; have NB187_186 := n6_; clear n0_ n1_ n2_ n3_ n4_ n5_ n6_ hb hbox hg; have hnb38 := NB186_187.out; have hnc38 := NB187_186.out; have hcz39_0 := cz4_0 BK186; have hcz39_1 := cz4_1 BK186; have hcz39_2 := cz4_2 BK186; have hcz39_3 := cz4_3 BK186; have hfz39_0 := blk_frozen BK186.out 0; have hfz39_1 := blk_frozen BK186.out 1; have hfz39_2 := blk_frozen BK186.out 2; have hfz39_3 := blk_frozen BK186.out 3) | ((with_reducible refine gate_callee (f := 32) rfl ?_); refine goesL_ (some 16) rfl rfl Try.func32 (by kernel_rfl) rfl #[.agg #[.slice A0_0 l0_0.length c0_0, .int .i64 a0_1, .int .i64 a0_2, .string a0_3], .int .i64 1048576] rfl (by (try simp only [List.map_toArray, List.map_cons, List.map_nil]); first | done | rfl | (simp only [List.length_drop, List.length_take]; rfl)) ?_; (with_reducible refine (laws_szAlarm.calls k _ _ l0_0 a0_1 a0_2 a0_3 1048576 t188 _ ?side1 ?side2 A3.out).mono ?_); (case side1 => repeat (first | exact (Kd.C_below HR0_0.out HB.out) | (with_reducible refine Kd.C_alloc ?_ _) | (with_reducible refine Kd.C_drewN ?_ _) | (with_reducible refine Kd.C_drew ?_))); (case side2 => exact HC0_0.out); rintro e w40 ⟨rfl, hb⟩; refine ⟨_, rfl, ?_⟩; have n0_ := bb BK186 hb; have n1_ := bb BK187 hb; have n2_ := aM (below_step (by repeat (first | (with_reducible first | exact HB.out | apply aW1 | apply aW2 | apply aW3 | refine below_set ?_ GE186.out | refine below_set ?_ GE187.out) | exact HB.out)) hb); clear BK186 BK187 HB; have BK186 := n0_; have BK187 := n1_; have HB := n2_; clear n0_ n1_ n2_; (try clear hb); (try clear hb2); (try clear hk); (try clear hi); have hcz41_0 := cz4_0 BK187; have hcz41_1 := cz4_1 BK187; have hcz41_2 := cz4_2 BK187; have hcz41_3 := cz4_3 BK187; have hfz41_0 := blk_frozen BK187.out 0; have hfz41_1 := blk_frozen BK187.out 1; have hfz41_2 := blk_frozen BK187.out 2; have hfz41_3 := blk_frozen BK187.out 3) | ((with_reducible refine gate_callee (f := 32) rfl ?_); refine goesL_ (some 21) rfl rfl Try.func32 (by kernel_rfl) rfl #[.agg #[.slice A1_0 l1_0.length c1_0, .int .i64 a1_1, .int .i64 a1_2, .string a1_3], .int .i64 t188] rfl (by (try simp only [List.map_toArray, List.map_cons, List.map_nil]); first | done | rfl | (simp only [List.length_drop, List.length_take]; rfl)) ?_; (with_reducible refine (laws_szAlarm.calls k _ _ l1_0 a1_1 a1_2 a1_3 t188 t189 _ ?side1 ?side2 A10.out).mono ?_); (case side1 => repeat (first | exact (Kd.C_below HR1_0.out HB.out) | (with_reducible refine Kd.C_alloc ?_ _) | (with_reducible refine Kd.C_drewN ?_ _) | (with_reducible refine Kd.C_drew ?_))); (case side2 => exact HC1_0.out); rintro e w42 ⟨rfl, hb⟩; refine ⟨_, rfl, ?_⟩; have n0_ := bb BK186 hb; have n1_ := bb BK187 hb; have n2_ := aM (below_step (by repeat (first | (with_reducible first | exact HB.out | apply aW1 | apply aW2 | apply aW3 | refine below_set ?_ GE186.out | refine below_set ?_ GE187.out) | exact HB.out)) hb); clear BK186 BK187 HB; have BK186 := n0_; have BK187 := n1_; have HB := n2_; clear n0_ n1_ n2_; (try clear hb); (try clear hb2); (try clear hk); (try clear hi)))
      have n0_ := aM (blk_drew BK186.out)
      have n1_ := aM (blk_drew BK187.out)
      have n2_ := aM (below_drew1 HB.out)
      clear BK186 BK187 HB; have BK186 := n0_; have BK187 := n1_; have HB := n2_; clear n0_ n1_ n2_
      refine start_ (n := 7) (S := fun w' => w'.cell? ⟨gb186, 0, none⟩ = some (.slice A0_0 l0_0.length c0_0) ∧ w'.cell? ⟨gb186, 1, none⟩ = some (.int .i64 a0_1) ∧ w'.cell? ⟨gb186, 2, none⟩ = some (.int .i64 a0_2) ∧ w'.cell? ⟨gb186, 3, none⟩ = some (.string a0_3) ∧ w'.cell? ⟨gb187, 0, none⟩ = some (.slice A1_0 l1_0.length c1_0) ∧ w'.cell? ⟨gb187, 1, none⟩ = some (.int .i64 a1_1) ∧ w'.cell? ⟨gb187, 2, none⟩ = some (.int .i64 a1_2) ∧ w'.cell? ⟨gb187, 3, none⟩ = some (.string a1_3)) (ds := []) #[false, false, false, false, false, false, false] (by kernel_rfl) rfl rfl ⟨(blk_cell BK186.out 0).trans rfl, (blk_cell BK186.out 1).trans rfl, (blk_cell BK186.out 2).trans rfl, (blk_cell BK186.out 3).trans rfl, (blk_cell BK187.out 0).trans rfl, (blk_cell BK187.out 1).trans rfl, (blk_cell BK187.out 2).trans rfl, (blk_cell BK187.out 3).trans rfl⟩ (fun hHeld => ?_)
      generalize w42.drew = w43 at BK186 BK187 HB hHeld ⊢
      refine take_ (i := 0) (N := some 24) (v := ?_) (a' := ?_) #[true, false, false, false, false, false, false] rfl rfl (by kernel_rfl) (fun _ _ _ h => h) (Or.inl ⟨by rfl, ?_⟩) hHeld ?_ ?_
      rotate_left
      ·rintro w' ⟨s0, s1, s2, s3, s4, s5, s6, s7⟩
       go_simp
       with_reducible rfl
      rotate_left
      ·simp only [Act.put, List.setIfInBounds_toArray, List.set_cons_zero, List.set_cons_succ, i64_w, i32_w]
       rfl
      refine take_ (i := 2) (N := some 26) (v := ?_) (a' := ?_) #[true, false, true, false, false, false, false] rfl rfl (by kernel_rfl) (fun _ _ _ h => h) (Or.inl ⟨by rfl, ?_⟩) hHeld ?_ ?_
      rotate_left
      ·rintro w' ⟨s0, s1, s2, s3, s4, s5, s6, s7⟩
       go_simp
       with_reducible rfl
      rotate_left
      ·simp only [Act.put, List.setIfInBounds_toArray, List.set_cons_zero, List.set_cons_succ, i64_w, i32_w]
       rfl
      refine join_ (σ := Value × Value × Value × Nat) 1 #[true, true, true, true, true, true, false] (fun s_ => [(25, .agg #[s_.1, .int .i64 t193, .int .i64 t194, .string t195]), (27, .agg #[s_.2.1, .int .i64 t199, .int .i64 t200, .string t201]), (28, .agg #[s_.2.2.1, .int .i64 t205, .int .i64 t206, .string t207]), (6, .pointer (some ⟨s_.2.2.2, 0, none⟩))]) (fun s_ w' => (w'.cell? ⟨gb186, 0, none⟩ = some (.slice A0_0 l0_0.length c0_0) ∧ w'.cell? ⟨gb186, 1, none⟩ = some (.int .i64 a0_1) ∧ w'.cell? ⟨gb186, 2, none⟩ = some (.int .i64 a0_2) ∧ w'.cell? ⟨gb186, 3, none⟩ = some (.string a0_3) ∧ w'.cell? ⟨gb187, 0, none⟩ = some (.slice A1_0 l1_0.length c1_0) ∧ w'.cell? ⟨gb187, 1, none⟩ = some (.int .i64 a1_1) ∧ w'.cell? ⟨gb187, 2, none⟩ = some (.int .i64 a1_2) ∧ w'.cell? ⟨gb187, 3, none⟩ = some (.string a1_3)) ∧ (Kd.R k90 90 w' w.heap.size (fun k_ => some k_ ≠ (s_.2.1 : Value).ownBlock ∧ some k_ ≠ (s_.2.2.1 : Value).ownBlock) s_.1 t190) ∧ (Kd.R k90 90 w' w.heap.size (fun k_ => some k_ ≠ (s_.1 : Value).ownBlock ∧ some k_ ≠ (s_.2.2.1 : Value).ownBlock) s_.2.1 t196) ∧ (Kd.R k90 90 w' w.heap.size (fun k_ => some k_ ≠ (s_.1 : Value).ownBlock ∧ some k_ ≠ (s_.2.1 : Value).ownBlock) s_.2.2.1 t202) ∧ (w'.heap[gb186]? = some (.cells #[.slice A0_0 l0_0.length c0_0, .int .i64 a0_1, .int .i64 a0_2, .string a0_3] 37 (0, 0))) ∧ (w'.heap[gb187]? = some (.cells #[.slice A1_0 l1_0.length c1_0, .int .i64 a1_1, .int .i64 a1_2, .string a1_3] 37 (0, 0))) ∧ (w'.heap[s_.2.2.2]? = some (.cells #[.slice none 0 0, .int .i64 0, .int .i64 0, .string (⟨#[]⟩ : ByteArray)] 41 (0, 0))) ∧ (w.heap.size ≤ s_.2.2.2) ∧ (w.heap.size ≤ s_.2.2.2) ∧ (gb186 ≠ s_.2.2.2) ∧ (s_.2.2.2 ≠ gb186) ∧ (gb187 ≠ s_.2.2.2) ∧ (s_.2.2.2 ≠ gb187) ∧ (Below w.heap.size w w')) ?_ ?_
      rotate_left
      ·intro hCont
       refine two_ (i := 1) (j := 5) (Ni := some 25) (Nj := some 6) #[true, true, true, false, false, false, false] #[true, false, true, false, false, true, false] rfl rfl rfl rfl (by kernel_rfl) (by decide) (by decide) (fun K hK => ?_) (fun K hK => ?_)
       ·skip
        refine goes_ Try.func34 (by kernel_rfl) rfl #[.agg #[.slice A0_0 l0_0.length c0_0, .int .i64 a0_1, .int .i64 a0_2, .string a0_3]] (by rfl) rfl rfl (by (try simp only [List.map_toArray, List.map_cons, List.map_nil]); first | done | rfl | (simp only [List.length_drop, List.length_take]; rfl)) ?_
        with_reducible refine (laws_toAlarm.calls k _ _ l0_0 a0_1 a0_2 a0_3 t190 t193 t194 t195 _ ?side1 ?side2 A19.out).mono ?_
        (case side1 => repeat (first | exact (Kd.C_below HR0_0.out HB.out) | (with_reducible refine Kd.C_alloc ?_ _) | (with_reducible refine Kd.C_drewN ?_ _) | (with_reducible refine Kd.C_drew ?_)))
        (case side2 => exact HC0_0.out)
        rintro e w44 ⟨v191, rfl, ho0, hb⟩
        refine ⟨_, rfl, ?_⟩
        have n0_ := aM (Kd.R_lower ho0 (below_size (by repeat (first | (with_reducible first | exact HB.out | apply aW1 | apply aW2 | apply aW3 | refine below_set ?_ GE186.out | refine below_set ?_ GE187.out) | exact HB.out))))
        have n1_ := bb BK186 hb; have n2_ := bb BK187 hb
        have n3_ := aM (below_step (by repeat (first | (with_reducible first | exact HB.out | apply aW1 | apply aW2 | apply aW3 | refine below_set ?_ GE186.out | refine below_set ?_ GE187.out) | exact HB.out)) hb)
        clear BK186 BK187 HB; have HO192 := n0_; have BK186 := n1_; have BK187 := n2_; have HB := n3_; clear n0_ n1_ n2_ n3_
        (try clear hb)
        (try clear hb2)
        (try clear hk)
        (try clear hi)
        (try clear ho0)
        refine hK.out _ _ ⟨(blk_cell BK186.out 0).trans rfl, (blk_cell BK186.out 1).trans rfl, (blk_cell BK186.out 2).trans rfl, (blk_cell BK186.out 3).trans rfl, (blk_cell BK187.out 0).trans rfl, (blk_cell BK187.out 1).trans rfl, (blk_cell BK187.out 2).trans rfl, (blk_cell BK187.out 3).trans rfl⟩ (fun hHeld => ?_)
        clear hK K
        refine norm_ (a' := ?_) ?_ ?_
        rotate_left
        ·show Act.put _ (some 25) _ = _
         simp only [Act.put, List.setIfInBounds_toArray, List.set_cons_zero, List.set_cons_succ, i64_w, i32_w]
         rfl
        refine two_ (i := 3) (j := 5) (Ni := some 27) (Nj := some 6) #[true, true, true, true, false, false, false] #[true, true, true, false, false, true, false] rfl rfl rfl rfl (by kernel_rfl) (by decide) (by decide) (fun K hK => ?_) (fun K hK => ?_)
        ·skip
         refine goes_ Try.func34 (by kernel_rfl) rfl #[.agg #[.slice A1_0 l1_0.length c1_0, .int .i64 a1_1, .int .i64 a1_2, .string a1_3]] (by rfl) rfl rfl (by (try simp only [List.map_toArray, List.map_cons, List.map_nil]); first | done | rfl | (simp only [List.length_drop, List.length_take]; rfl)) ?_
         with_reducible refine (laws_toAlarm.calls k _ _ l1_0 a1_1 a1_2 a1_3 t196 t199 t200 t201 _ ?side1 ?side2 A20.out).mono ?_
         (case side1 => repeat (first | exact (Kd.C_below HR1_0.out HB.out) | (with_reducible refine Kd.C_alloc ?_ _) | (with_reducible refine Kd.C_drewN ?_ _) | (with_reducible refine Kd.C_drew ?_)))
         (case side2 => exact HC1_0.out)
         rintro e w45 ⟨v197, rfl, ho0, hb⟩
         refine ⟨_, rfl, ?_⟩
         have n0_ := aM (Kd.R_elder' (aR HO192) (Kd.R_base ho0) hb)
         have n1_ := aM (Kd.R_lower (Kd.R_new' ho0 (Kd.R_lt (aR HO192))) (below_size (by repeat (first | (with_reducible first | exact HB.out | apply aW1 | apply aW2 | apply aW3 | refine below_set ?_ GE186.out | refine below_set ?_ GE187.out) | exact HB.out))))
         have n2_ := bb BK186 hb; have n3_ := bb BK187 hb
         have n4_ := aM (below_step (by repeat (first | (with_reducible first | exact HB.out | apply aW1 | apply aW2 | apply aW3 | refine below_set ?_ GE186.out | refine below_set ?_ GE187.out) | exact HB.out)) hb)
         clear HO192 BK186 BK187 HB; have HO192 := n0_; have HO198 := n1_; have BK186 := n2_; have BK187 := n3_; have HB := n4_; clear n0_ n1_ n2_ n3_ n4_
         (try clear hb)
         (try clear hb2)
         (try clear hk)
         (try clear hi)
         (try clear ho0)
         obtain ⟨Ao46, co46, eo46⟩ := Kd.R_slice HO192.out
         (first | subst eo46 | (injection eo46 with f1_ f2_ f3_; have f4_ := f1_.symm; have f5_ := f3_.symm; clear f1_ f2_ f3_; subst f4_; subst f5_))
         obtain ⟨Ao47, co47, eo47⟩ := Kd.R_slice HO198.out
         (first | subst eo47 | (injection eo47 with f1_ f2_ f3_; have f4_ := f1_.symm; have f5_ := f3_.symm; clear f1_ f2_ f3_; subst f4_; subst f5_))
         refine hK.out _ _ ⟨(blk_cell BK186.out 0).trans rfl, (blk_cell BK186.out 1).trans rfl, (blk_cell BK186.out 2).trans rfl, (blk_cell BK186.out 3).trans rfl, (blk_cell BK187.out 0).trans rfl, (blk_cell BK187.out 1).trans rfl, (blk_cell BK187.out 2).trans rfl, (blk_cell BK187.out 3).trans rfl⟩ (fun hHeld => ?_)
         clear hK K
         refine norm_ (a' := ?_) ?_ ?_
         rotate_left
         ·show Act.put _ (some 27) _ = _
          simp only [Act.put, List.setIfInBounds_toArray, List.set_cons_zero, List.set_cons_succ, i64_w, i32_w]
          rfl
         refine two_ (i := 4) (j := 5) (Ni := some 28) (Nj := some 6) #[true, true, true, true, true, false, false] #[true, true, true, true, false, true, false] rfl rfl rfl rfl (by kernel_rfl) (by decide) (by decide) (fun K hK => ?_) (fun K hK => ?_)
         ·skip
          refine goes_ Try.func33 (by kernel_rfl) rfl #[.agg #[.slice Ao46 t190.length co46, .int .i64 t193, .int .i64 t194, .string t195], .agg #[.slice Ao47 t196.length co47, .int .i64 t199, .int .i64 t200, .string t201]] (by rfl) rfl rfl (by (try simp only [List.map_toArray, List.map_cons, List.map_nil]); first | done | rfl | (simp only [List.length_drop, List.length_take]; rfl)) ?_
          with_reducible refine (spec_Merge.calls _ _ t190 t193 t194 t195 _ _ t196 t199 t200 t201 t202 t205 t206 t207 _ ?side1 ?side2 ?side3 ?side4 A21.out).mono ?_
          (case side1 => repeat (first | exact (Kd.R_reads' HO192.out).2.2 | (with_reducible refine Kd.C_alloc ?_ _) | (with_reducible refine Kd.C_drewN ?_ _) | (with_reducible refine Kd.C_drew ?_)))
          (case side2 => exact (Kd.R_reads' HO192.out).2.1)
          (case side3 => repeat (first | exact (Kd.R_reads' HO198.out).2.2 | (with_reducible refine Kd.C_alloc ?_ _) | (with_reducible refine Kd.C_drewN ?_ _) | (with_reducible refine Kd.C_drew ?_)))
          (case side4 => exact (Kd.R_reads' HO198.out).2.1)
          rintro e w48 ⟨v203, rfl, ho0, hb⟩
          refine ⟨_, rfl, ?_⟩
          have n0_ := aM (Kd.R_elder' (aR HO192) (Kd.R_base ho0) hb)
          have n1_ := aM (Kd.R_elder' (aR HO198) (Kd.R_base ho0) hb)
          have n2_ := aM (Kd.R_lower (Kd.R_new' (Kd.R_new' ho0 (Kd.R_lt (aR HO192))) (Kd.R_lt (aR HO198))) (below_size (by repeat (first | (with_reducible first | exact HB.out | apply aW1 | apply aW2 | apply aW3 | refine below_set ?_ GE186.out | refine below_set ?_ GE187.out) | exact HB.out))))
          have n3_ := bb BK186 hb; have n4_ := bb BK187 hb
          have n5_ := aM (below_step (by repeat (first | (with_reducible first | exact HB.out | apply aW1 | apply aW2 | apply aW3 | refine below_set ?_ GE186.out | refine below_set ?_ GE187.out) | exact HB.out)) hb)
          clear HO192 HO198 BK186 BK187 HB; have HO192 := n0_; have HO198 := n1_; have HO204 := n2_; have BK186 := n3_; have BK187 := n4_; have HB := n5_; clear n0_ n1_ n2_ n3_ n4_ n5_
          (try clear hb)
          (try clear hb2)
          (try clear hk)
          (try clear hi)
          (try clear ho0)
          refine hK.out _ _ ⟨(blk_cell BK186.out 0).trans rfl, (blk_cell BK186.out 1).trans rfl, (blk_cell BK186.out 2).trans rfl, (blk_cell BK186.out 3).trans rfl, (blk_cell BK187.out 0).trans rfl, (blk_cell BK187.out 1).trans rfl, (blk_cell BK187.out 2).trans rfl, (blk_cell BK187.out 3).trans rfl⟩ (fun hHeld => ?_)
          clear hK K
          refine norm_ (a' := ?_) ?_ ?_
          rotate_left
          ·show Act.put _ (some 28) _ = _
           simp only [Act.put, List.setIfInBounds_toArray, List.set_cons_zero, List.set_cons_succ, i64_w, i32_w]
           rfl
          refine one_ (i := 5) (N := some 6) #[true, true, true, true, true, true, false] rfl rfl (by kernel_rfl) (by decide) (fun K hK => ?_)
          refine box_step ?hg (N := 6) ?hd (cs := #[.slice none 0 0, .int .i64 0, .int .i64 0, .string (⟨#[]⟩ : ByteArray)]) (t := 41) ?hr ?_; (case hd => rfl); (case hg => rfl); (case hr => first | (go_simp; done) | (go_simp; rfl))
          intro gb208 hg w49 hbox hb
          have n0_ := rb HO192 hb; have n1_ := rb HO198 hb; have n2_ := rb HO204 hb; have n3_ := bb BK186 hb; have n4_ := bb BK187 hb
          have n5_ := aM (below_step (by repeat (first | (with_reducible first | exact HB.out | apply aW1 | apply aW2 | apply aW3 | refine below_set ?_ GE186.out | refine below_set ?_ GE187.out) | exact HB.out)) hb)
          have n6_ := aM (hbox)
          have n7_ := aM ((by rw [hg]; exact (below_size (by repeat (first | (with_reducible first | exact HB.out | apply aW1 | apply aW2 | apply aW3 | refine below_set ?_ GE186.out | refine below_set ?_ GE187.out) | exact HB.out))) : w.heap.size ≤ gb208))
          have n8_ := aM ((by rw [hg]; exact (below_size (by repeat (first | (with_reducible first | exact HB.out | apply aW1 | apply aW2 | apply aW3 | refine below_set ?_ GE186.out | refine below_set ?_ GE187.out) | exact HB.out))) : w.heap.size ≤ gb208))
          have n9_ := aM ((by rw [hg]; exact Nat.ne_of_lt (blk_lt (g := gb186) (aB BK186)) : gb186 ≠ gb208))
          have n10_ := aM ((by rw [hg]; exact Nat.ne_of_gt (blk_lt (g := gb186) (aB BK186)) : gb208 ≠ gb186))
          have n11_ := aM ((by rw [hg]; exact Nat.ne_of_lt (blk_lt (g := gb187) (aB BK187)) : gb187 ≠ gb208))
          have n12_ := aM ((by rw [hg]; exact Nat.ne_of_gt (blk_lt (g := gb187) (aB BK187)) : gb208 ≠ gb187))
          clear HO192 HO198 HO204 BK186 BK187 HB; have HO192 := n0_; have HO198 := n1_; have HO204 := n2_; have BK186 := n3_; have BK187 := n4_; have HB := n5_; have BK208 := n6_; have GW208 := n7_; have GE208 := n8_; have NB186_208 := n9_; have NB208_186 := n10_; have NB187_208 := n11_; have NB208_187 := n12_; clear n0_ n1_ n2_ n3_ n4_ n5_ n6_ n7_ n8_ n9_ n10_ n11_ n12_ hb hbox hg
          refine hK.out _ _ ⟨(blk_cell BK186.out 0).trans rfl, (blk_cell BK186.out 1).trans rfl, (blk_cell BK186.out 2).trans rfl, (blk_cell BK186.out 3).trans rfl, (blk_cell BK187.out 0).trans rfl, (blk_cell BK187.out 1).trans rfl, (blk_cell BK187.out 2).trans rfl, (blk_cell BK187.out 3).trans rfl⟩ (fun hHeld => ?_)
          clear hK K
          refine norm_ (a' := ?_) ?_ ?_
          rotate_left
          ·show Act.put _ (some 6) _ = _
           simp only [Act.put, List.setIfInBounds_toArray, List.set_cons_zero, List.set_cons_succ, i64_w, i32_w]
           rfl
          exact norm_ (by simp only [putAll, Act.put, List.setIfInBounds_toArray, List.set_cons_zero, List.set_cons_succ]) (hCont (.slice Ao46 t190.length co46, .slice Ao47 t196.length co47, v203, gb208) _ ⟨hHeld, (by (with_reducible repeat (first | apply aR1 | apply aR2 | apply aR3)); exact Kd.R_mono HO192.out (fun _ hk => ⟨hk.1.2, hk.2⟩)), (by (with_reducible repeat (first | apply aR1 | apply aR2 | apply aR3)); exact Kd.R_mono HO198.out (fun _ hk => ⟨hk.1.2, hk.2⟩)), (by (with_reducible repeat (first | apply aR1 | apply aR2 | apply aR3)); exact Kd.R_mono HO204.out (fun _ hk => ⟨hk.1.2, hk.2⟩)), (aB BK186), (aB BK187), (aB BK208), GW208.out, GE208.out, NB186_208.out, NB208_186.out, NB187_208.out, NB208_187.out, (by repeat (first | (with_reducible first | exact HB.out | apply aW1 | apply aW2 | apply aW3 | refine below_set ?_ GE186.out | refine below_set ?_ GE187.out | refine below_set ?_ GE208.out) | exact HB.out))⟩)
         ·skip
          refine box_step ?hg (N := 6) ?hd (cs := #[.slice none 0 0, .int .i64 0, .int .i64 0, .string (⟨#[]⟩ : ByteArray)]) (t := 41) ?hr ?_; (case hd => rfl); (case hg => rfl); (case hr => first | (go_simp; done) | (go_simp; rfl))
          intro gb208 hg w46 hbox hb
          have n0_ := rb HO192 hb; have n1_ := rb HO198 hb; have n2_ := bb BK186 hb; have n3_ := bb BK187 hb
          have n4_ := aM (below_step (by repeat (first | (with_reducible first | exact HB.out | apply aW1 | apply aW2 | apply aW3 | refine below_set ?_ GE186.out | refine below_set ?_ GE187.out) | exact HB.out)) hb)
          have n5_ := aM (hbox)
          have n6_ := aM ((by rw [hg]; exact (below_size (by repeat (first | (with_reducible first | exact HB.out | apply aW1 | apply aW2 | apply aW3 | refine below_set ?_ GE186.out | refine below_set ?_ GE187.out) | exact HB.out))) : w.heap.size ≤ gb208))
          have n7_ := aM ((by rw [hg]; exact (below_size (by repeat (first | (with_reducible first | exact HB.out | apply aW1 | apply aW2 | apply aW3 | refine below_set ?_ GE186.out | refine below_set ?_ GE187.out) | exact HB.out))) : w.heap.size ≤ gb208))
          have n8_ := aM ((by rw [hg]; exact Nat.ne_of_lt (blk_lt (g := gb186) (aB BK186)) : gb186 ≠ gb208))
          have n9_ := aM ((by rw [hg]; exact Nat.ne_of_gt (blk_lt (g := gb186) (aB BK186)) : gb208 ≠ gb186))
          have n10_ := aM ((by rw [hg]; exact Nat.ne_of_lt (blk_lt (g := gb187) (aB BK187)) : gb187 ≠ gb208))
          have n11_ := aM ((by rw [hg]; exact Nat.ne_of_gt (blk_lt (g := gb187) (aB BK187)) : gb208 ≠ gb187))
          clear HO192 HO198 BK186 BK187 HB; have HO192 := n0_; have HO198 := n1_; have BK186 := n2_; have BK187 := n3_; have HB := n4_; have BK208 := n5_; have GW208 := n6_; have GE208 := n7_; have NB186_208 := n8_; have NB208_186 := n9_; have NB187_208 := n10_; have NB208_187 := n11_; clear n0_ n1_ n2_ n3_ n4_ n5_ n6_ n7_ n8_ n9_ n10_ n11_ hb hbox hg
          obtain ⟨Ao47, co47, eo47⟩ := Kd.R_slice HO192.out
          (first | subst eo47 | (injection eo47 with f1_ f2_ f3_; have f4_ := f1_.symm; have f5_ := f3_.symm; clear f1_ f2_ f3_; subst f4_; subst f5_))
          obtain ⟨Ao48, co48, eo48⟩ := Kd.R_slice HO198.out
          (first | subst eo48 | (injection eo48 with f1_ f2_ f3_; have f4_ := f1_.symm; have f5_ := f3_.symm; clear f1_ f2_ f3_; subst f4_; subst f5_))
          refine hK.out _ _ ⟨(blk_cell BK186.out 0).trans rfl, (blk_cell BK186.out 1).trans rfl, (blk_cell BK186.out 2).trans rfl, (blk_cell BK186.out 3).trans rfl, (blk_cell BK187.out 0).trans rfl, (blk_cell BK187.out 1).trans rfl, (blk_cell BK187.out 2).trans rfl, (blk_cell BK187.out 3).trans rfl⟩ (fun hHeld => ?_)
          clear hK K
          refine norm_ (a' := ?_) ?_ ?_
          rotate_left
          ·show Act.put _ (some 6) _ = _
           simp only [Act.put, List.setIfInBounds_toArray, List.set_cons_zero, List.set_cons_succ, i64_w, i32_w]
           rfl
          refine one_ (i := 4) (N := some 28) #[true, true, true, true, true, true, false] rfl rfl (by kernel_rfl) (by decide) (fun K hK => ?_)
          refine goes_ Try.func33 (by kernel_rfl) rfl #[.agg #[.slice Ao47 t190.length co47, .int .i64 t193, .int .i64 t194, .string t195], .agg #[.slice Ao48 t196.length co48, .int .i64 t199, .int .i64 t200, .string t201]] (by rfl) rfl rfl (by (try simp only [List.map_toArray, List.map_cons, List.map_nil]); first | done | rfl | (simp only [List.length_drop, List.length_take]; rfl)) ?_
          with_reducible refine (spec_Merge.calls _ _ t190 t193 t194 t195 _ _ t196 t199 t200 t201 t202 t205 t206 t207 _ ?side1 ?side2 ?side3 ?side4 A21.out).mono ?_
          (case side1 => repeat (first | exact (Kd.R_reads' HO192.out).2.2 | (with_reducible refine Kd.C_alloc ?_ _) | (with_reducible refine Kd.C_drewN ?_ _) | (with_reducible refine Kd.C_drew ?_)))
          (case side2 => exact (Kd.R_reads' HO192.out).2.1)
          (case side3 => repeat (first | exact (Kd.R_reads' HO198.out).2.2 | (with_reducible refine Kd.C_alloc ?_ _) | (with_reducible refine Kd.C_drewN ?_ _) | (with_reducible refine Kd.C_drew ?_)))
          (case side4 => exact (Kd.R_reads' HO198.out).2.1)
          rintro e w49 ⟨v203, rfl, ho0, hb⟩
          refine ⟨_, rfl, ?_⟩
          have n0_ := aM (Kd.R_elder' (aR HO192) (Kd.R_base ho0) hb)
          have n1_ := aM (Kd.R_elder' (aR HO198) (Kd.R_base ho0) hb)
          have n2_ := aM (Kd.R_lower (Kd.R_new' (Kd.R_new' ho0 (Kd.R_lt (aR HO192))) (Kd.R_lt (aR HO198))) (below_size (by repeat (first | (with_reducible first | exact HB.out | apply aW1 | apply aW2 | apply aW3 | refine below_set ?_ GE186.out | refine below_set ?_ GE187.out | refine below_set ?_ GE208.out) | exact HB.out))))
          have n3_ := bb BK186 hb; have n4_ := bb BK187 hb; have n5_ := bb BK208 hb
          have n6_ := aM (below_step (by repeat (first | (with_reducible first | exact HB.out | apply aW1 | apply aW2 | apply aW3 | refine below_set ?_ GE186.out | refine below_set ?_ GE187.out | refine below_set ?_ GE208.out) | exact HB.out)) hb)
          clear HO192 HO198 BK186 BK187 BK208 HB; have HO192 := n0_; have HO198 := n1_; have HO204 := n2_; have BK186 := n3_; have BK187 := n4_; have BK208 := n5_; have HB := n6_; clear n0_ n1_ n2_ n3_ n4_ n5_ n6_
          (try clear hb)
          (try clear hb2)
          (try clear hk)
          (try clear hi)
          (try clear ho0)
          refine hK.out _ _ ⟨(blk_cell BK186.out 0).trans rfl, (blk_cell BK186.out 1).trans rfl, (blk_cell BK186.out 2).trans rfl, (blk_cell BK186.out 3).trans rfl, (blk_cell BK187.out 0).trans rfl, (blk_cell BK187.out 1).trans rfl, (blk_cell BK187.out 2).trans rfl, (blk_cell BK187.out 3).trans rfl⟩ (fun hHeld => ?_)
          clear hK K
          refine norm_ (a' := ?_) ?_ ?_
          rotate_left
          ·show Act.put _ (some 28) _ = _
           simp only [Act.put, List.setIfInBounds_toArray, List.set_cons_zero, List.set_cons_succ, i64_w, i32_w]
           rfl
          exact norm_ (by simp only [putAll, Act.put, List.setIfInBounds_toArray, List.set_cons_zero, List.set_cons_succ]) (hCont (.slice Ao47 t190.length co47, .slice Ao48 t196.length co48, v203, gb208) _ ⟨hHeld, (by (with_reducible repeat (first | apply aR1 | apply aR2 | apply aR3)); exact Kd.R_mono HO192.out (fun _ hk => ⟨hk.1.2, hk.2⟩)), (by (with_reducible repeat (first | apply aR1 | apply aR2 | apply aR3)); exact Kd.R_mono HO198.out (fun _ hk => ⟨hk.1.2, hk.2⟩)), (by (with_reducible repeat (first | apply aR1 | apply aR2 | apply aR3)); exact Kd.R_mono HO204.out (fun _ hk => ⟨hk.1.2, hk.2⟩)), (aB BK186), (aB BK187), (aB BK208), GW208.out, GE208.out, NB186_208.out, NB208_186.out, NB187_208.out, NB208_187.out, (by repeat (first | (with_reducible first | exact HB.out | apply aW1 | apply aW2 | apply aW3 | refine below_set ?_ GE186.out | refine below_set ?_ GE187.out | refine below_set ?_ GE208.out) | exact HB.out))⟩)
        ·skip
         refine box_step ?hg (N := 6) ?hd (cs := #[.slice none 0 0, .int .i64 0, .int .i64 0, .string (⟨#[]⟩ : ByteArray)]) (t := 41) ?hr ?_; (case hd => rfl); (case hg => rfl); (case hr => first | (go_simp; done) | (go_simp; rfl))
         intro gb208 hg w45 hbox hb
         have n0_ := rb HO192 hb; have n1_ := bb BK186 hb; have n2_ := bb BK187 hb
         have n3_ := aM (below_step (by repeat (first | (with_reducible first | exact HB.out | apply aW1 | apply aW2 | apply aW3 | refine below_set ?_ GE186.out | refine below_set ?_ GE187.out) | exact HB.out)) hb)
         have n4_ := aM (hbox)
         have n5_ := aM ((by rw [hg]; exact (below_size (by repeat (first | (with_reducible first | exact HB.out | apply aW1 | apply aW2 | apply aW3 | refine below_set ?_ GE186.out | refine below_set ?_ GE187.out) | exact HB.out))) : w.heap.size ≤ gb208))
         have n6_ := aM ((by rw [hg]; exact (below_size (by repeat (first | (with_reducible first | exact HB.out | apply aW1 | apply aW2 | apply aW3 | refine below_set ?_ GE186.out | refine below_set ?_ GE187.out) | exact HB.out))) : w.heap.size ≤ gb208))
         have n7_ := aM ((by rw [hg]; exact Nat.ne_of_lt (blk_lt (g := gb186) (aB BK186)) : gb186 ≠ gb208))
         have n8_ := aM ((by rw [hg]; exact Nat.ne_of_gt (blk_lt (g := gb186) (aB BK186)) : gb208 ≠ gb186))
         have n9_ := aM ((by rw [hg]; exact Nat.ne_of_lt (blk_lt (g := gb187) (aB BK187)) : gb187 ≠ gb208))
         have n10_ := aM ((by rw [hg]; exact Nat.ne_of_gt (blk_lt (g := gb187) (aB BK187)) : gb208 ≠ gb187))
         clear HO192 BK186 BK187 HB; have HO192 := n0_; have BK186 := n1_; have BK187 := n2_; have HB := n3_; have BK208 := n4_; have GW208 := n5_; have GE208 := n6_; have NB186_208 := n7_; have NB208_186 := n8_; have NB187_208 := n9_; have NB208_187 := n10_; clear n0_ n1_ n2_ n3_ n4_ n5_ n6_ n7_ n8_ n9_ n10_ hb hbox hg
         refine hK.out _ _ ⟨(blk_cell BK186.out 0).trans rfl, (blk_cell BK186.out 1).trans rfl, (blk_cell BK186.out 2).trans rfl, (blk_cell BK186.out 3).trans rfl, (blk_cell BK187.out 0).trans rfl, (blk_cell BK187.out 1).trans rfl, (blk_cell BK187.out 2).trans rfl, (blk_cell BK187.out 3).trans rfl⟩ (fun hHeld => ?_)
         clear hK K
         refine norm_ (a' := ?_) ?_ ?_
         rotate_left
         ·show Act.put _ (some 6) _ = _
          simp only [Act.put, List.setIfInBounds_toArray, List.set_cons_zero, List.set_cons_succ, i64_w, i32_w]
          rfl
         refine one_ (i := 3) (N := some 27) #[true, true, true, true, false, true, false] rfl rfl (by kernel_rfl) (by decide) (fun K hK => ?_)
         refine goes_ Try.func34 (by kernel_rfl) rfl #[.agg #[.slice A1_0 l1_0.length c1_0, .int .i64 a1_1, .int .i64 a1_2, .string a1_3]] (by rfl) rfl rfl (by (try simp only [List.map_toArray, List.map_cons, List.map_nil]); first | done | rfl | (simp only [List.length_drop, List.length_take]; rfl)) ?_
         with_reducible refine (laws_toAlarm.calls k _ _ l1_0 a1_1 a1_2 a1_3 t196 t199 t200 t201 _ ?side1 ?side2 A20.out).mono ?_
         (case side1 => repeat (first | exact (Kd.C_below HR1_0.out HB.out) | (with_reducible refine Kd.C_alloc ?_ _) | (with_reducible refine Kd.C_drewN ?_ _) | (with_reducible refine Kd.C_drew ?_)))
         (case side2 => exact HC1_0.out)
         rintro e w46 ⟨v197, rfl, ho0, hb⟩
         refine ⟨_, rfl, ?_⟩
         have n0_ := aM (Kd.R_elder' (aR HO192) (Kd.R_base ho0) hb)
         have n1_ := aM (Kd.R_lower (Kd.R_new' ho0 (Kd.R_lt (aR HO192))) (below_size (by repeat (first | (with_reducible first | exact HB.out | apply aW1 | apply aW2 | apply aW3 | refine below_set ?_ GE186.out | refine below_set ?_ GE187.out | refine below_set ?_ GE208.out) | exact HB.out))))
         have n2_ := bb BK186 hb; have n3_ := bb BK187 hb; have n4_ := bb BK208 hb
         have n5_ := aM (below_step (by repeat (first | (with_reducible first | exact HB.out | apply aW1 | apply aW2 | apply aW3 | refine below_set ?_ GE186.out | refine below_set ?_ GE187.out | refine below_set ?_ GE208.out) | exact HB.out)) hb)
         clear HO192 BK186 BK187 BK208 HB; have HO192 := n0_; have HO198 := n1_; have BK186 := n2_; have BK187 := n3_; have BK208 := n4_; have HB := n5_; clear n0_ n1_ n2_ n3_ n4_ n5_
         (try clear hb)
         (try clear hb2)
         (try clear hk)
         (try clear hi)
         (try clear ho0)
         obtain ⟨Ao47, co47, eo47⟩ := Kd.R_slice HO192.out
         (first | subst eo47 | (injection eo47 with f1_ f2_ f3_; have f4_ := f1_.symm; have f5_ := f3_.symm; clear f1_ f2_ f3_; subst f4_; subst f5_))
         obtain ⟨Ao48, co48, eo48⟩ := Kd.R_slice HO198.out
         (first | subst eo48 | (injection eo48 with f1_ f2_ f3_; have f4_ := f1_.symm; have f5_ := f3_.symm; clear f1_ f2_ f3_; subst f4_; subst f5_))
         refine hK.out _ _ ⟨(blk_cell BK186.out 0).trans rfl, (blk_cell BK186.out 1).trans rfl, (blk_cell BK186.out 2).trans rfl, (blk_cell BK186.out 3).trans rfl, (blk_cell BK187.out 0).trans rfl, (blk_cell BK187.out 1).trans rfl, (blk_cell BK187.out 2).trans rfl, (blk_cell BK187.out 3).trans rfl⟩ (fun hHeld => ?_)
         clear hK K
         refine norm_ (a' := ?_) ?_ ?_
         rotate_left
         ·show Act.put _ (some 27) _ = _
          simp only [Act.put, List.setIfInBounds_toArray, List.set_cons_zero, List.set_cons_succ, i64_w, i32_w]
          rfl
         refine one_ (i := 4) (N := some 28) #[true, true, true, true, true, true, false] rfl rfl (by kernel_rfl) (by decide) (fun K hK => ?_)
         refine goes_ Try.func33 (by kernel_rfl) rfl #[.agg #[.slice Ao47 t190.length co47, .int .i64 t193, .int .i64 t194, .string t195], .agg #[.slice Ao48 t196.length co48, .int .i64 t199, .int .i64 t200, .string t201]] (by rfl) rfl rfl (by (try simp only [List.map_toArray, List.map_cons, List.map_nil]); first | done | rfl | (simp only [List.length_drop, List.length_take]; rfl)) ?_
         with_reducible refine (spec_Merge.calls _ _ t190 t193 t194 t195 _ _ t196 t199 t200 t201 t202 t205 t206 t207 _ ?side1 ?side2 ?side3 ?side4 A21.out).mono ?_
         (case side1 => repeat (first | exact (Kd.R_reads' HO192.out).2.2 | (with_reducible refine Kd.C_alloc ?_ _) | (with_reducible refine Kd.C_drewN ?_ _) | (with_reducible refine Kd.C_drew ?_)))
         (case side2 => exact (Kd.R_reads' HO192.out).2.1)
         (case side3 => repeat (first | exact (Kd.R_reads' HO198.out).2.2 | (with_reducible refine Kd.C_alloc ?_ _) | (with_reducible refine Kd.C_drewN ?_ _) | (with_reducible refine Kd.C_drew ?_)))
         (case side4 => exact (Kd.R_reads' HO198.out).2.1)
         rintro e w49 ⟨v203, rfl, ho0, hb⟩
         refine ⟨_, rfl, ?_⟩
         have n0_ := aM (Kd.R_elder' (aR HO192) (Kd.R_base ho0) hb)
         have n1_ := aM (Kd.R_elder' (aR HO198) (Kd.R_base ho0) hb)
         have n2_ := aM (Kd.R_lower (Kd.R_new' (Kd.R_new' ho0 (Kd.R_lt (aR HO192))) (Kd.R_lt (aR HO198))) (below_size (by repeat (first | (with_reducible first | exact HB.out | apply aW1 | apply aW2 | apply aW3 | refine below_set ?_ GE186.out | refine below_set ?_ GE187.out | refine below_set ?_ GE208.out) | exact HB.out))))
         have n3_ := bb BK186 hb; have n4_ := bb BK187 hb; have n5_ := bb BK208 hb
         have n6_ := aM (below_step (by repeat (first | (with_reducible first | exact HB.out | apply aW1 | apply aW2 | apply aW3 | refine below_set ?_ GE186.out | refine below_set ?_ GE187.out | refine below_set ?_ GE208.out) | exact HB.out)) hb)
         clear HO192 HO198 BK186 BK187 BK208 HB; have HO192 := n0_; have HO198 := n1_; have HO204 := n2_; have BK186 := n3_; have BK187 := n4_; have BK208 := n5_; have HB := n6_; clear n0_ n1_ n2_ n3_ n4_ n5_ n6_
         (try clear hb)
         (try clear hb2)
         (try clear hk)
         (try clear hi)
         (try clear ho0)
         refine hK.out _ _ ⟨(blk_cell BK186.out 0).trans rfl, (blk_cell BK186.out 1).trans rfl, (blk_cell BK186.out 2).trans rfl, (blk_cell BK186.out 3).trans rfl, (blk_cell BK187.out 0).trans rfl, (blk_cell BK187.out 1).trans rfl, (blk_cell BK187.out 2).trans rfl, (blk_cell BK187.out 3).trans rfl⟩ (fun hHeld => ?_)
         clear hK K
         refine norm_ (a' := ?_) ?_ ?_
         rotate_left
         ·show Act.put _ (some 28) _ = _
          simp only [Act.put, List.setIfInBounds_toArray, List.set_cons_zero, List.set_cons_succ, i64_w, i32_w]
          rfl
         exact norm_ (by simp only [putAll, Act.put, List.setIfInBounds_toArray, List.set_cons_zero, List.set_cons_succ]) (hCont (.slice Ao47 t190.length co47, .slice Ao48 t196.length co48, v203, gb208) _ ⟨hHeld, (by (with_reducible repeat (first | apply aR1 | apply aR2 | apply aR3)); exact Kd.R_mono HO192.out (fun _ hk => ⟨hk.1.2, hk.2⟩)), (by (with_reducible repeat (first | apply aR1 | apply aR2 | apply aR3)); exact Kd.R_mono HO198.out (fun _ hk => ⟨hk.1.2, hk.2⟩)), (by (with_reducible repeat (first | apply aR1 | apply aR2 | apply aR3)); exact Kd.R_mono HO204.out (fun _ hk => ⟨hk.1.2, hk.2⟩)), (aB BK186), (aB BK187), (aB BK208), GW208.out, GE208.out, NB186_208.out, NB208_186.out, NB187_208.out, NB208_187.out, (by repeat (first | (with_reducible first | exact HB.out | apply aW1 | apply aW2 | apply aW3 | refine below_set ?_ GE186.out | refine below_set ?_ GE187.out | refine below_set ?_ GE208.out) | exact HB.out))⟩)
       ·skip
        refine box_step ?hg (N := 6) ?hd (cs := #[.slice none 0 0, .int .i64 0, .int .i64 0, .string (⟨#[]⟩ : ByteArray)]) (t := 41) ?hr ?_; (case hd => rfl); (case hg => rfl); (case hr => first | (go_simp; done) | (go_simp; rfl))
        intro gb208 hg w44 hbox hb
        have n0_ := bb BK186 hb; have n1_ := bb BK187 hb
        have n2_ := aM (below_step (by repeat (first | (with_reducible first | exact HB.out | apply aW1 | apply aW2 | apply aW3 | refine below_set ?_ GE186.out | refine below_set ?_ GE187.out) | exact HB.out)) hb)
        have n3_ := aM (hbox)
        have n4_ := aM ((by rw [hg]; exact (below_size (by repeat (first | (with_reducible first | exact HB.out | apply aW1 | apply aW2 | apply aW3 | refine below_set ?_ GE186.out | refine below_set ?_ GE187.out) | exact HB.out))) : w.heap.size ≤ gb208))
        have n5_ := aM ((by rw [hg]; exact (below_size (by repeat (first | (with_reducible first | exact HB.out | apply aW1 | apply aW2 | apply aW3 | refine below_set ?_ GE186.out | refine below_set ?_ GE187.out) | exact HB.out))) : w.heap.size ≤ gb208))
        have n6_ := aM ((by rw [hg]; exact Nat.ne_of_lt (blk_lt (g := gb186) (aB BK186)) : gb186 ≠ gb208))
        have n7_ := aM ((by rw [hg]; exact Nat.ne_of_gt (blk_lt (g := gb186) (aB BK186)) : gb208 ≠ gb186))
        have n8_ := aM ((by rw [hg]; exact Nat.ne_of_lt (blk_lt (g := gb187) (aB BK187)) : gb187 ≠ gb208))
        have n9_ := aM ((by rw [hg]; exact Nat.ne_of_gt (blk_lt (g := gb187) (aB BK187)) : gb208 ≠ gb187))
        clear BK186 BK187 HB; have BK186 := n0_; have BK187 := n1_; have HB := n2_; have BK208 := n3_; have GW208 := n4_; have GE208 := n5_; have NB186_208 := n6_; have NB208_186 := n7_; have NB187_208 := n8_; have NB208_187 := n9_; clear n0_ n1_ n2_ n3_ n4_ n5_ n6_ n7_ n8_ n9_ hb hbox hg
        refine hK.out _ _ ⟨(blk_cell BK186.out 0).trans rfl, (blk_cell BK186.out 1).trans rfl, (blk_cell BK186.out 2).trans rfl, (blk_cell BK186.out 3).trans rfl, (blk_cell BK187.out 0).trans rfl, (blk_cell BK187.out 1).trans rfl, (blk_cell BK187.out 2).trans rfl, (blk_cell BK187.out 3).trans rfl⟩ (fun hHeld => ?_)
        clear hK K
        refine norm_ (a' := ?_) ?_ ?_
        rotate_left
        ·show Act.put _ (some 6) _ = _
         simp only [Act.put, List.setIfInBounds_toArray, List.set_cons_zero, List.set_cons_succ, i64_w, i32_w]
         rfl
        refine one_ (i := 1) (N := some 25) #[true, true, true, false, false, true, false] rfl rfl (by kernel_rfl) (by decide) (fun K hK => ?_)
        refine goes_ Try.func34 (by kernel_rfl) rfl #[.agg #[.slice A0_0 l0_0.length c0_0, .int .i64 a0_1, .int .i64 a0_2, .string a0_3]] (by rfl) rfl rfl (by (try simp only [List.map_toArray, List.map_cons, List.map_nil]); first | done | rfl | (simp only [List.length_drop, List.length_take]; rfl)) ?_
        with_reducible refine (laws_toAlarm.calls k _ _ l0_0 a0_1 a0_2 a0_3 t190 t193 t194 t195 _ ?side1 ?side2 A19.out).mono ?_
        (case side1 => repeat (first | exact (Kd.C_below HR0_0.out HB.out) | (with_reducible refine Kd.C_alloc ?_ _) | (with_reducible refine Kd.C_drewN ?_ _) | (with_reducible refine Kd.C_drew ?_)))
        (case side2 => exact HC0_0.out)
        rintro e w45 ⟨v191, rfl, ho0, hb⟩
        refine ⟨_, rfl, ?_⟩
        have n0_ := aM (Kd.R_lower ho0 (below_size (by repeat (first | (with_reducible first | exact HB.out | apply aW1 | apply aW2 | apply aW3 | refine below_set ?_ GE186.out | refine below_set ?_ GE187.out | refine below_set ?_ GE208.out) | exact HB.out))))
        have n1_ := bb BK186 hb; have n2_ := bb BK187 hb; have n3_ := bb BK208 hb
        have n4_ := aM (below_step (by repeat (first | (with_reducible first | exact HB.out | apply aW1 | apply aW2 | apply aW3 | refine below_set ?_ GE186.out | refine below_set ?_ GE187.out | refine below_set ?_ GE208.out) | exact HB.out)) hb)
        clear BK186 BK187 BK208 HB; have HO192 := n0_; have BK186 := n1_; have BK187 := n2_; have BK208 := n3_; have HB := n4_; clear n0_ n1_ n2_ n3_ n4_
        (try clear hb)
        (try clear hb2)
        (try clear hk)
        (try clear hi)
        (try clear ho0)
        refine hK.out _ _ ⟨(blk_cell BK186.out 0).trans rfl, (blk_cell BK186.out 1).trans rfl, (blk_cell BK186.out 2).trans rfl, (blk_cell BK186.out 3).trans rfl, (blk_cell BK187.out 0).trans rfl, (blk_cell BK187.out 1).trans rfl, (blk_cell BK187.out 2).trans rfl, (blk_cell BK187.out 3).trans rfl⟩ (fun hHeld => ?_)
        clear hK K
        refine norm_ (a' := ?_) ?_ ?_
        rotate_left
        ·show Act.put _ (some 25) _ = _
         simp only [Act.put, List.setIfInBounds_toArray, List.set_cons_zero, List.set_cons_succ, i64_w, i32_w]
         rfl
        refine one_ (i := 3) (N := some 27) #[true, true, true, true, false, true, false] rfl rfl (by kernel_rfl) (by decide) (fun K hK => ?_)
        refine goes_ Try.func34 (by kernel_rfl) rfl #[.agg #[.slice A1_0 l1_0.length c1_0, .int .i64 a1_1, .int .i64 a1_2, .string a1_3]] (by rfl) rfl rfl (by (try simp only [List.map_toArray, List.map_cons, List.map_nil]); first | done | rfl | (simp only [List.length_drop, List.length_take]; rfl)) ?_
        with_reducible refine (laws_toAlarm.calls k _ _ l1_0 a1_1 a1_2 a1_3 t196 t199 t200 t201 _ ?side1 ?side2 A20.out).mono ?_
        (case side1 => repeat (first | exact (Kd.C_below HR1_0.out HB.out) | (with_reducible refine Kd.C_alloc ?_ _) | (with_reducible refine Kd.C_drewN ?_ _) | (with_reducible refine Kd.C_drew ?_)))
        (case side2 => exact HC1_0.out)
        rintro e w46 ⟨v197, rfl, ho0, hb⟩
        refine ⟨_, rfl, ?_⟩
        have n0_ := aM (Kd.R_elder' (aR HO192) (Kd.R_base ho0) hb)
        have n1_ := aM (Kd.R_lower (Kd.R_new' ho0 (Kd.R_lt (aR HO192))) (below_size (by repeat (first | (with_reducible first | exact HB.out | apply aW1 | apply aW2 | apply aW3 | refine below_set ?_ GE186.out | refine below_set ?_ GE187.out | refine below_set ?_ GE208.out) | exact HB.out))))
        have n2_ := bb BK186 hb; have n3_ := bb BK187 hb; have n4_ := bb BK208 hb
        have n5_ := aM (below_step (by repeat (first | (with_reducible first | exact HB.out | apply aW1 | apply aW2 | apply aW3 | refine below_set ?_ GE186.out | refine below_set ?_ GE187.out | refine below_set ?_ GE208.out) | exact HB.out)) hb)
        clear HO192 BK186 BK187 BK208 HB; have HO192 := n0_; have HO198 := n1_; have BK186 := n2_; have BK187 := n3_; have BK208 := n4_; have HB := n5_; clear n0_ n1_ n2_ n3_ n4_ n5_
        (try clear hb)
        (try clear hb2)
        (try clear hk)
        (try clear hi)
        (try clear ho0)
        obtain ⟨Ao47, co47, eo47⟩ := Kd.R_slice HO192.out
        (first | subst eo47 | (injection eo47 with f1_ f2_ f3_; have f4_ := f1_.symm; have f5_ := f3_.symm; clear f1_ f2_ f3_; subst f4_; subst f5_))
        obtain ⟨Ao48, co48, eo48⟩ := Kd.R_slice HO198.out
        (first | subst eo48 | (injection eo48 with f1_ f2_ f3_; have f4_ := f1_.symm; have f5_ := f3_.symm; clear f1_ f2_ f3_; subst f4_; subst f5_))
        refine hK.out _ _ ⟨(blk_cell BK186.out 0).trans rfl, (blk_cell BK186.out 1).trans rfl, (blk_cell BK186.out 2).trans rfl, (blk_cell BK186.out 3).trans rfl, (blk_cell BK187.out 0).trans rfl, (blk_cell BK187.out 1).trans rfl, (blk_cell BK187.out 2).trans rfl, (blk_cell BK187.out 3).trans rfl⟩ (fun hHeld => ?_)
        clear hK K
        refine norm_ (a' := ?_) ?_ ?_
        rotate_left
        ·show Act.put _ (some 27) _ = _
         simp only [Act.put, List.setIfInBounds_toArray, List.set_cons_zero, List.set_cons_succ, i64_w, i32_w]
         rfl
        refine one_ (i := 4) (N := some 28) #[true, true, true, true, true, true, false] rfl rfl (by kernel_rfl) (by decide) (fun K hK => ?_)
        refine goes_ Try.func33 (by kernel_rfl) rfl #[.agg #[.slice Ao47 t190.length co47, .int .i64 t193, .int .i64 t194, .string t195], .agg #[.slice Ao48 t196.length co48, .int .i64 t199, .int .i64 t200, .string t201]] (by rfl) rfl rfl (by (try simp only [List.map_toArray, List.map_cons, List.map_nil]); first | done | rfl | (simp only [List.length_drop, List.length_take]; rfl)) ?_
        with_reducible refine (spec_Merge.calls _ _ t190 t193 t194 t195 _ _ t196 t199 t200 t201 t202 t205 t206 t207 _ ?side1 ?side2 ?side3 ?side4 A21.out).mono ?_
        (case side1 => repeat (first | exact (Kd.R_reads' HO192.out).2.2 | (with_reducible refine Kd.C_alloc ?_ _) | (with_reducible refine Kd.C_drewN ?_ _) | (with_reducible refine Kd.C_drew ?_)))
        (case side2 => exact (Kd.R_reads' HO192.out).2.1)
        (case side3 => repeat (first | exact (Kd.R_reads' HO198.out).2.2 | (with_reducible refine Kd.C_alloc ?_ _) | (with_reducible refine Kd.C_drewN ?_ _) | (with_reducible refine Kd.C_drew ?_)))
        (case side4 => exact (Kd.R_reads' HO198.out).2.1)
        rintro e w49 ⟨v203, rfl, ho0, hb⟩
        refine ⟨_, rfl, ?_⟩
        have n0_ := aM (Kd.R_elder' (aR HO192) (Kd.R_base ho0) hb)
        have n1_ := aM (Kd.R_elder' (aR HO198) (Kd.R_base ho0) hb)
        have n2_ := aM (Kd.R_lower (Kd.R_new' (Kd.R_new' ho0 (Kd.R_lt (aR HO192))) (Kd.R_lt (aR HO198))) (below_size (by repeat (first | (with_reducible first | exact HB.out | apply aW1 | apply aW2 | apply aW3 | refine below_set ?_ GE186.out | refine below_set ?_ GE187.out | refine below_set ?_ GE208.out) | exact HB.out))))
        have n3_ := bb BK186 hb; have n4_ := bb BK187 hb; have n5_ := bb BK208 hb
        have n6_ := aM (below_step (by repeat (first | (with_reducible first | exact HB.out | apply aW1 | apply aW2 | apply aW3 | refine below_set ?_ GE186.out | refine below_set ?_ GE187.out | refine below_set ?_ GE208.out) | exact HB.out)) hb)
        clear HO192 HO198 BK186 BK187 BK208 HB; have HO192 := n0_; have HO198 := n1_; have HO204 := n2_; have BK186 := n3_; have BK187 := n4_; have BK208 := n5_; have HB := n6_; clear n0_ n1_ n2_ n3_ n4_ n5_ n6_
        (try clear hb)
        (try clear hb2)
        (try clear hk)
        (try clear hi)
        (try clear ho0)
        refine hK.out _ _ ⟨(blk_cell BK186.out 0).trans rfl, (blk_cell BK186.out 1).trans rfl, (blk_cell BK186.out 2).trans rfl, (blk_cell BK186.out 3).trans rfl, (blk_cell BK187.out 0).trans rfl, (blk_cell BK187.out 1).trans rfl, (blk_cell BK187.out 2).trans rfl, (blk_cell BK187.out 3).trans rfl⟩ (fun hHeld => ?_)
        clear hK K
        refine norm_ (a' := ?_) ?_ ?_
        rotate_left
        ·show Act.put _ (some 28) _ = _
         simp only [Act.put, List.setIfInBounds_toArray, List.set_cons_zero, List.set_cons_succ, i64_w, i32_w]
         rfl
        exact norm_ (by simp only [putAll, Act.put, List.setIfInBounds_toArray, List.set_cons_zero, List.set_cons_succ]) (hCont (.slice Ao47 t190.length co47, .slice Ao48 t196.length co48, v203, gb208) _ ⟨hHeld, (by (with_reducible repeat (first | apply aR1 | apply aR2 | apply aR3)); exact Kd.R_mono HO192.out (fun _ hk => ⟨hk.1.2, hk.2⟩)), (by (with_reducible repeat (first | apply aR1 | apply aR2 | apply aR3)); exact Kd.R_mono HO198.out (fun _ hk => ⟨hk.1.2, hk.2⟩)), (by (with_reducible repeat (first | apply aR1 | apply aR2 | apply aR3)); exact Kd.R_mono HO204.out (fun _ hk => ⟨hk.1.2, hk.2⟩)), (aB BK186), (aB BK187), (aB BK208), GW208.out, GE208.out, NB186_208.out, NB208_186.out, NB187_208.out, NB208_187.out, (by repeat (first | (with_reducible first | exact HB.out | apply aW1 | apply aW2 | apply aW3 | refine below_set ?_ GE186.out | refine below_set ?_ GE187.out | refine below_set ?_ GE208.out) | exact HB.out))⟩)
      rintro ⟨v191, v197, v203, gb208⟩ w50 ⟨hS_, h0_, h1_, h2_, h3_, h4_, h5_, h6_, h7_, h8_, h9_, h10_, h11_, h12_⟩
      have n0_ : Aside0 (Kd.R k90 90 w50 w.heap.size (fun k_ => some k_ ≠ (v197 : Value).ownBlock ∧ some k_ ≠ (v203 : Value).ownBlock) v191 t190) := ⟨h0_⟩
      have n1_ : Aside0 (Kd.R k90 90 w50 w.heap.size (fun k_ => some k_ ≠ (v191 : Value).ownBlock ∧ some k_ ≠ (v203 : Value).ownBlock) v197 t196) := ⟨h1_⟩
      have n2_ : Aside0 (Kd.R k90 90 w50 w.heap.size (fun k_ => some k_ ≠ (v191 : Value).ownBlock ∧ some k_ ≠ (v197 : Value).ownBlock) v203 t202) := ⟨h2_⟩
      have n3_ : Aside0 (w50.heap[gb186]? = some (.cells #[.slice A0_0 l0_0.length c0_0, .int .i64 a0_1, .int .i64 a0_2, .string a0_3] 37 (0, 0))) := ⟨h3_⟩
      have n4_ : Aside0 (w50.heap[gb187]? = some (.cells #[.slice A1_0 l1_0.length c1_0, .int .i64 a1_1, .int .i64 a1_2, .string a1_3] 37 (0, 0))) := ⟨h4_⟩
      have n5_ : Aside0 (w50.heap[gb208]? = some (.cells #[.slice none 0 0, .int .i64 0, .int .i64 0, .string (⟨#[]⟩ : ByteArray)] 41 (0, 0))) := ⟨h5_⟩
      have n6_ : Aside0 (w.heap.size ≤ gb208) := ⟨h6_⟩
      have n7_ : Aside0 (w.heap.size ≤ gb208) := ⟨h7_⟩
      have n8_ : Aside0 (gb186 ≠ gb208) := ⟨h8_⟩
      have n9_ : Aside0 (gb208 ≠ gb186) := ⟨h9_⟩
      have n10_ : Aside0 (gb187 ≠ gb208) := ⟨h10_⟩
      have n11_ : Aside0 (gb208 ≠ gb187) := ⟨h11_⟩
      have n12_ : Aside0 (Below w.heap.size w w50) := ⟨h12_⟩
      clear BK186 BK187 HB h0_ h1_ h2_ h3_ h4_ h5_ h6_ h7_ h8_ h9_ h10_ h11_ h12_; have HO192 := n0_; have HO198 := n1_; have HO204 := n2_; have BK186 := n3_; have BK187 := n4_; have BK208 := n5_; have GW208 := n6_; have GE208 := n7_; have NB186_208 := n8_; have NB208_186 := n9_; have NB187_208 := n10_; have NB208_187 := n11_; have HB := n12_; clear n0_ n1_ n2_ n3_ n4_ n5_ n6_ n7_ n8_ n9_ n10_ n11_ n12_
      have hHeld : w50.cell? ⟨gb186, 0, none⟩ = some (.slice A0_0 l0_0.length c0_0) ∧ w50.cell? ⟨gb186, 1, none⟩ = some (.int .i64 a0_1) ∧ w50.cell? ⟨gb186, 2, none⟩ = some (.int .i64 a0_2) ∧ w50.cell? ⟨gb186, 3, none⟩ = some (.string a0_3) ∧ w50.cell? ⟨gb187, 0, none⟩ = some (.slice A1_0 l1_0.length c1_0) ∧ w50.cell? ⟨gb187, 1, none⟩ = some (.int .i64 a1_1) ∧ w50.cell? ⟨gb187, 2, none⟩ = some (.int .i64 a1_2) ∧ w50.cell? ⟨gb187, 3, none⟩ = some (.string a1_3) := hS_
      obtain ⟨Ao51, co51, eo51⟩ := Kd.R_slice HO204.out
      (first | subst eo51 | (injection eo51 with f1_ f2_ f3_; have f4_ := f1_.symm; have f5_ := f3_.symm; clear f1_ f2_ f3_; subst f4_; subst f5_))
      refine norm_ (a' := ?_) ?_ ?_
      rotate_left
      ·simp only [putAll, Act.put, List.setIfInBounds_toArray, List.set_cons_zero, List.set_cons_succ]
       rfl
      refine one_ (i := 6) (N := none) #[true, true, true, true, true, true, true] rfl rfl (by kernel_rfl) (by decide) (fun K hK => ?_)
      have hs52 : w50.cell? ⟨gb208, 0, none⟩ = some (.slice none 0 0) := (blk_cell BK208.out 0).trans rfl
      have hfs52 := blk_frozen BK208.out 0
      have hns52_0 := NB186_208.out
      have hns52_1 := NB187_208.out
      have hms52_0 := NB208_186.out
      have hms52_1 := NB208_187.out
      have hs53 : w50.cell? ⟨gb208, 1, none⟩ = some (.int .i64 0) := (blk_cell BK208.out 1).trans rfl
      have hfs53 := blk_frozen BK208.out 1
      have hns53_0 := NB186_208.out
      have hns53_1 := NB187_208.out
      have hms53_0 := NB208_186.out
      have hms53_1 := NB208_187.out
      have hs54 : w50.cell? ⟨gb208, 2, none⟩ = some (.int .i64 0) := (blk_cell BK208.out 2).trans rfl
      have hfs54 := blk_frozen BK208.out 2
      have hns54_0 := NB186_208.out
      have hns54_1 := NB187_208.out
      have hms54_0 := NB208_186.out
      have hms54_1 := NB208_187.out
      have hs55 : w50.cell? ⟨gb208, 3, none⟩ = some (.string (⟨#[]⟩ : ByteArray)) := (blk_cell BK208.out 3).trans rfl
      have hfs55 := blk_frozen BK208.out 3
      have hns55_0 := NB186_208.out
      have hns55_1 := NB187_208.out
      have hms55_0 := NB208_186.out
      have hms55_1 := NB208_187.out
      refine skip_ (w1 := ?_) (by rfl) rfl ?_ ?_
      rotate_left
      ·go_simp
       rfl
      refine hK.out _ _ ⟨((cell_far (p := ⟨gb208, _, none⟩) NB186_208.out _).trans (((cell_far (p := ⟨gb208, _, none⟩) NB186_208.out _).trans (((cell_far (p := ⟨gb208, _, none⟩) NB186_208.out _).trans (((cell_far (p := ⟨gb208, _, none⟩) NB186_208.out _).trans (hHeld.1)))))))), ((cell_far (p := ⟨gb208, _, none⟩) NB186_208.out _).trans (((cell_far (p := ⟨gb208, _, none⟩) NB186_208.out _).trans (((cell_far (p := ⟨gb208, _, none⟩) NB186_208.out _).trans (((cell_far (p := ⟨gb208, _, none⟩) NB186_208.out _).trans (hHeld.2.1)))))))), ((cell_far (p := ⟨gb208, _, none⟩) NB186_208.out _).trans (((cell_far (p := ⟨gb208, _, none⟩) NB186_208.out _).trans (((cell_far (p := ⟨gb208, _, none⟩) NB186_208.out _).trans (((cell_far (p := ⟨gb208, _, none⟩) NB186_208.out _).trans (hHeld.2.2.1)))))))), ((cell_far (p := ⟨gb208, _, none⟩) NB186_208.out _).trans (((cell_far (p := ⟨gb208, _, none⟩) NB186_208.out _).trans (((cell_far (p := ⟨gb208, _, none⟩) NB186_208.out _).trans (((cell_far (p := ⟨gb208, _, none⟩) NB186_208.out _).trans (hHeld.2.2.2.1)))))))), ((cell_far (p := ⟨gb208, _, none⟩) NB187_208.out _).trans (((cell_far (p := ⟨gb208, _, none⟩) NB187_208.out _).trans (((cell_far (p := ⟨gb208, _, none⟩) NB187_208.out _).trans (((cell_far (p := ⟨gb208, _, none⟩) NB187_208.out _).trans (hHeld.2.2.2.2.1)))))))), ((cell_far (p := ⟨gb208, _, none⟩) NB187_208.out _).trans (((cell_far (p := ⟨gb208, _, none⟩) NB187_208.out _).trans (((cell_far (p := ⟨gb208, _, none⟩) NB187_208.out _).trans (((cell_far (p := ⟨gb208, _, none⟩) NB187_208.out _).trans (hHeld.2.2.2.2.2.1)))))))), ((cell_far (p := ⟨gb208, _, none⟩) NB187_208.out _).trans (((cell_far (p := ⟨gb208, _, none⟩) NB187_208.out _).trans (((cell_far (p := ⟨gb208, _, none⟩) NB187_208.out _).trans (((cell_far (p := ⟨gb208, _, none⟩) NB187_208.out _).trans (hHeld.2.2.2.2.2.2.1)))))))), ((cell_far (p := ⟨gb208, _, none⟩) NB187_208.out _).trans (((cell_far (p := ⟨gb208, _, none⟩) NB187_208.out _).trans (((cell_far (p := ⟨gb208, _, none⟩) NB187_208.out _).trans (((cell_far (p := ⟨gb208, _, none⟩) NB187_208.out _).trans (hHeld.2.2.2.2.2.2.2))))))))⟩ (fun hHeld => ?_)
      clear hK K
      refine done_ (by kernel_rfl) ?_
      have hnb56 := NB186_208.out; have hnc56 := NB208_186.out; have hcz57_0 := cz4_0 BK186; have hcz57_1 := cz4_1 BK186; have hcz57_2 := cz4_2 BK186; have hcz57_3 := cz4_3 BK186; have hfz57_0 := blk_frozen BK186.out 0; have hfz57_1 := blk_frozen BK186.out 1; have hfz57_2 := blk_frozen BK186.out 2; have hfz57_3 := blk_frozen BK186.out 3
      try go_wp2_with (first | ((with_reducible refine gate_callee (f := 34) rfl ?_); refine goesL_ (some 30) rfl rfl Try.func34 (by kernel_rfl) rfl #[.agg #[.slice A0_0 l0_0.length c0_0, .int .i64 a0_1, .int .i64 a0_2, .string a0_3]] rfl (by (try simp only [List.map_toArray, List.map_cons, List.map_nil]); first | done | rfl | (simp only [List.length_drop, List.length_take]; rfl)) ?_; (with_reducible refine (laws_toAlarm.calls k _ _ l0_0 a0_1 a0_2 a0_3 t209 t212 t213 t214 _ ?side1 ?side2 A22.out).mono ?_); (case side1 => exact Kd.C_below HR0_0.out (by repeat (first | (with_reducible first | exact HB.out | apply aW1 | apply aW2 | apply aW3 | refine below_set ?_ GE186.out | refine below_set ?_ GE187.out | refine below_set ?_ GE208.out) | exact HB.out))); (case side2 => exact HC0_0.out); rintro e w58 ⟨v210, rfl, ho0, hb⟩; refine ⟨_, rfl, ?_⟩; have n0_ := aM (Kd.R_elder' (by (with_reducible repeat (first | apply aR1 | apply aR2 | apply aR3)); exact (Kd.R_mono (Kd.R_far (p := ⟨gb208, 3, none⟩) (Kd.R_far (p := ⟨gb208, 2, none⟩) (Kd.R_far (p := ⟨gb208, 1, none⟩) (Kd.R_far (p := ⟨gb208, 0, none⟩) (Kd.R_types HO192.out BK208.out (by decide)) (fun _ hk => hk.2) (.slice Ao51 t202.length co51)) (fun _ hk => hk.2) (.int .i64 t205)) (fun _ hk => hk.2) (.int .i64 t206)) (fun _ hk => hk.2) (.string t207)) (fun _ h_ => h_.1))) (Kd.R_base ho0) hb); have n1_ := aM (Kd.R_elder' (by (with_reducible repeat (first | apply aR1 | apply aR2 | apply aR3)); exact (Kd.R_mono (Kd.R_far (p := ⟨gb208, 3, none⟩) (Kd.R_far (p := ⟨gb208, 2, none⟩) (Kd.R_far (p := ⟨gb208, 1, none⟩) (Kd.R_far (p := ⟨gb208, 0, none⟩) (Kd.R_types HO198.out BK208.out (by decide)) (fun _ hk => hk.2) (.slice Ao51 t202.length co51)) (fun _ hk => hk.2) (.int .i64 t205)) (fun _ hk => hk.2) (.int .i64 t206)) (fun _ hk => hk.2) (.string t207)) (fun _ h_ => h_.1))) (Kd.R_base ho0) hb); have n2_ := aM (Kd.R_elder' (by (with_reducible repeat (first | apply aR1 | apply aR2 | apply aR3)); exact (Kd.R_mono (Kd.R_far (p := ⟨gb208, 3, none⟩) (Kd.R_far (p := ⟨gb208, 2, none⟩) (Kd.R_far (p := ⟨gb208, 1, none⟩) (Kd.R_far (p := ⟨gb208, 0, none⟩) (Kd.R_types HO204.out BK208.out (by decide)) (fun _ hk => hk.2) (.slice Ao51 t202.length co51)) (fun _ hk => hk.2) (.int .i64 t205)) (fun _ hk => hk.2) (.int .i64 t206)) (fun _ hk => hk.2) (.string t207)) (fun _ h_ => h_.1))) (Kd.R_base ho0) hb); have n3_ := aM (Kd.R_lower (Kd.R_new' (Kd.R_new' (Kd.R_new' ho0 (Kd.R_lt (by (with_reducible repeat (first | apply aR1 | apply aR2 | apply aR3)); exact (Kd.R_mono (Kd.R_far (p := ⟨gb208, 3, none⟩) (Kd.R_far (p := ⟨gb208, 2, none⟩) (Kd.R_far (p := ⟨gb208, 1, none⟩) (Kd.R_far (p := ⟨gb208, 0, none⟩) (Kd.R_types HO192.out BK208.out (by decide)) (fun _ hk => hk.2) (.slice Ao51 t202.length co51)) (fun _ hk => hk.2) (.int .i64 t205)) (fun _ hk => hk.2) (.int .i64 t206)) (fun _ hk => hk.2) (.string t207)) (fun _ h_ => h_.1))))) (Kd.R_lt (by (with_reducible repeat (first | apply aR1 | apply aR2 | apply aR3)); exact (Kd.R_mono (Kd.R_far (p := ⟨gb208, 3, none⟩) (Kd.R_far (p := ⟨gb208, 2, none⟩) (Kd.R_far (p := ⟨gb208, 1, none⟩) (Kd.R_far (p := ⟨gb208, 0, none⟩) (Kd.R_types HO198.out BK208.out (by decide)) (fun _ hk => hk.2) (.slice Ao51 t202.length co51)) (fun _ hk => hk.2) (.int .i64 t205)) (fun _ hk => hk.2) (.int .i64 t206)) (fun _ hk => hk.2) (.string t207)) (fun _ h_ => h_.1))))) (Kd.R_lt (by (with_reducible repeat (first | apply aR1 | apply aR2 | apply aR3)); exact (Kd.R_mono (Kd.R_far (p := ⟨gb208, 3, none⟩) (Kd.R_far (p := ⟨gb208, 2, none⟩) (Kd.R_far (p := ⟨gb208, 1, none⟩) (Kd.R_far (p := ⟨gb208, 0, none⟩) (Kd.R_types HO204.out BK208.out (by decide)) (fun _ hk => hk.2) (.slice Ao51 t202.length co51)) (fun _ hk => hk.2) (.int .i64 t205)) (fun _ hk => hk.2) (.int .i64 t206)) (fun _ hk => hk.2) (.string t207)) (fun _ h_ => h_.1))))) (below_size (by repeat (first | (with_reducible first | exact HB.out | apply aW1 | apply aW2 | apply aW3 | refine below_set ?_ GE186.out | refine below_set ?_ GE187.out | refine below_set ?_ GE208.out) | exact HB.out)))); have n4_ := aM (blk_below (g := gb186) (o := .cells #[.slice A0_0 l0_0.length c0_0, .int .i64 a0_1, .int .i64 a0_2, .string a0_3] 37 (0, 0)) (by (with_reducible repeat (first | refine aB1 ?_ _ | refine aB2 ?_ | refine aB3 ?_ _)); refine blk_far ?_ NB186_208.out _; (with_reducible repeat (first | refine aB1 ?_ _ | refine aB2 ?_ | refine aB3 ?_ _)); refine blk_far ?_ NB186_208.out _; (with_reducible repeat (first | refine aB1 ?_ _ | refine aB2 ?_ | refine aB3 ?_ _)); refine blk_far ?_ NB186_208.out _; (with_reducible repeat (first | refine aB1 ?_ _ | refine aB2 ?_ | refine aB3 ?_ _)); refine blk_far ?_ NB186_208.out _; (with_reducible repeat (first | refine aB1 ?_ _ | refine aB2 ?_ | refine aB3 ?_ _)); exact BK186.out) hb); have n5_ := aM (blk_below (g := gb187) (o := .cells #[.slice A1_0 l1_0.length c1_0, .int .i64 a1_1, .int .i64 a1_2, .string a1_3] 37 (0, 0)) (by (with_reducible repeat (first | refine aB1 ?_ _ | refine aB2 ?_ | refine aB3 ?_ _)); refine blk_far ?_ NB187_208.out _; (with_reducible repeat (first | refine aB1 ?_ _ | refine aB2 ?_ | refine aB3 ?_ _)); refine blk_far ?_ NB187_208.out _; (with_reducible repeat (first | refine aB1 ?_ _ | refine aB2 ?_ | refine aB3 ?_ _)); refine blk_far ?_ NB187_208.out _; (with_reducible repeat (first | refine aB1 ?_ _ | refine aB2 ?_ | refine aB3 ?_ _)); refine blk_far ?_ NB187_208.out _; (with_reducible repeat (first | refine aB1 ?_ _ | refine aB2 ?_ | refine aB3 ?_ _)); exact BK187.out) hb); have n6_ := aM (blk_below (g := gb208) (o := .cells #[.slice Ao51 t202.length co51, .int .i64 t205, .int .i64 t206, .string t207] 41 (0, 0)) (by (with_reducible repeat (first | refine aB1 ?_ _ | refine aB2 ?_ | refine aB3 ?_ _)); refine blk_put (cs := #[.slice Ao51 t202.length co51, .int .i64 t205, .int .i64 t206, .string (⟨#[]⟩ : ByteArray)]) ?_ 3 _ rfl; (with_reducible repeat (first | refine aB1 ?_ _ | refine aB2 ?_ | refine aB3 ?_ _)); refine blk_put (cs := #[.slice Ao51 t202.length co51, .int .i64 t205, .int .i64 0, .string (⟨#[]⟩ : ByteArray)]) ?_ 2 _ rfl; (with_reducible repeat (first | refine aB1 ?_ _ | refine aB2 ?_ | refine aB3 ?_ _)); refine blk_put (cs := #[.slice Ao51 t202.length co51, .int .i64 0, .int .i64 0, .string (⟨#[]⟩ : ByteArray)]) ?_ 1 _ rfl; (with_reducible repeat (first | refine aB1 ?_ _ | refine aB2 ?_ | refine aB3 ?_ _)); refine blk_put (cs := #[.slice none 0 0, .int .i64 0, .int .i64 0, .string (⟨#[]⟩ : ByteArray)]) ?_ 0 _ rfl; (with_reducible repeat (first | refine aB1 ?_ _ | refine aB2 ?_ | refine aB3 ?_ _)); exact BK208.out) hb); have n7_ := aM (below_step (by repeat (first | (with_reducible first | exact HB.out | apply aW1 | apply aW2 | apply aW3 | refine below_set ?_ GE186.out | refine below_set ?_ GE187.out | refine below_set ?_ GE208.out) | exact HB.out)) hb); clear HO192 HO198 HO204 BK186 BK187 BK208 HB; have HO192 := n0_; have HO198 := n1_; have HO204 := n2_; have HO211 := n3_; have BK186 := n4_; have BK187 := n5_; have BK208 := n6_; have HB := n7_; clear n0_ n1_ n2_ n3_ n4_ n5_ n6_ n7_; (try clear hb); (try clear hb2); (try clear hk); (try clear hi); (try clear ho0)) | ((with_reducible refine gate_dst (N := 7) rfl ?_); refine box_event ?hg (N := 7) ?hd (cs := #[.slice none 0 0, .int .i64 0, .int .i64 0, .string (⟨#[]⟩ : ByteArray)]) (t := 41) ?hr ?_; (case hd => rfl); (case hg => rfl); (case hr => first | (go_simp; done) | (go_simp; rfl)); intro gb215 hg w59 hbox hb; have n0_ := rb HO192 hb; have n1_ := rb HO198 hb; have n2_ := rb HO204 hb; have n3_ := rb HO211 hb; have n4_ := bb BK186 hb; have n5_ := bb BK187 hb; have n6_ := bb BK208 hb; have n7_ := aM (below_step (by repeat (first | (with_reducible first | exact HB.out | apply aW1 | apply aW2 | apply aW3 | refine below_set ?_ GE186.out | refine below_set ?_ GE187.out | refine below_set ?_ GE208.out) | exact HB.out)) hb); have n8_ := aM (hbox); have n9_ := aM ((by rw [hg]; exact (below_size (by repeat (first | (with_reducible first | exact HB.out | apply aW1 | apply aW2 | apply aW3 | refine below_set ?_ GE186.out | refine below_set ?_ GE187.out | refine below_set ?_ GE208.out) | exact HB.out))) : w.heap.size ≤ gb215)); have n10_ := aM ((by rw [hg]; exact (below_size (by repeat (first | (with_reducible first | exact HB.out | apply aW1 | apply aW2 | apply aW3 | refine below_set ?_ GE186.out | refine below_set ?_ GE187.out | refine below_set ?_ GE208.out) | exact HB.out))) : w.heap.size ≤ gb215)); have n11_ := aM ((by rw [hg]; exact Nat.ne_of_lt (blk_lt (g := gb186) (aB BK186)) : gb186 ≠ gb215)); have n12_ := aM ((by rw [hg]; exact Nat.ne_of_gt (blk_lt (g := gb186) (aB BK186)) : gb215 ≠ gb186)); have n13_ := aM ((by rw [hg]; exact Nat.ne_of_lt (blk_lt (g := gb187) (aB BK187)) : gb187 ≠ gb215)); have n14_ := aM ((by rw [hg]; exact Nat.ne_of_gt (blk_lt (g := gb187) (aB BK187)) : gb215 ≠ gb187)); have n15_ := aM ((by rw [hg]; exact Nat.ne_of_lt (blk_lt (g := gb208) (aB BK208)) : gb208 ≠ gb215)); have n16_ := aM ((by rw [hg]; exact Nat.ne_of_gt (blk_lt (g := gb208) (aB BK208)) : gb215 ≠ gb208)); clear HO192 HO198 HO204 HO211 BK186 BK187 BK208 HB; have HO192 := n0_; have HO198 := n1_; have HO204 := n2_; have HO211 := n3_; have BK186 := n4_; have BK187 := n5_; have BK208 := n6_; have HB := n7_; have BK215 := n8_; have GW215 := n9_; have GE215 := n10_; have NB186_215 := n11_; have NB215_186 := n12_; have NB187_215 := n13_; have NB215_187 := n14_; have NB208_215 := n15_; have NB215_208 := n16_; clear n0_ n1_ n2_ n3_ n4_ n5_ n6_ n7_ n8_ n9_ n10_ n11_ n12_ n13_ n14_ n15_ n16_ hb hbox hg; obtain ⟨Ao60, co60, eo60⟩ := Kd.R_slice HO211.out; subst eo60; have hnb61 := NB215_186.out; have hnc61 := NB186_215.out; have hnb62 := NB215_187.out; have hnc62 := NB187_215.out; have hnb63 := NB215_208.out; have hnc63 := NB208_215.out; have hcz64_0 := cz4_0 BK215; have hcz64_1 := cz4_1 BK215; have hcz64_2 := cz4_2 BK215; have hcz64_3 := cz4_3 BK215; have hfz64_0 := blk_frozen BK215.out 0; have hfz64_1 := blk_frozen BK215.out 1; have hfz64_2 := blk_frozen BK215.out 2; have hfz64_3 := blk_frozen BK215.out 3; have hnb65 := NB187_208.out; have hnc65 := NB208_187.out; have hcz66_0 := cz4_0 BK187; have hcz66_1 := cz4_1 BK187; have hcz66_2 := cz4_2 BK187; have hcz66_3 := cz4_3 BK187; have hfz66_0 := blk_frozen BK187.out 0; have hfz66_1 := blk_frozen BK187.out 1; have hfz66_2 := blk_frozen BK187.out 2; have hfz66_3 := blk_frozen BK187.out 3) | ((with_reducible refine gate_callee (f := 34) rfl ?_); refine goesL_ (some 32) rfl rfl Try.func34 (by kernel_rfl) rfl #[.agg #[.slice A1_0 l1_0.length c1_0, .int .i64 a1_1, .int .i64 a1_2, .string a1_3]] rfl (by (try simp only [List.map_toArray, List.map_cons, List.map_nil]); first | done | rfl | (simp only [List.length_drop, List.length_take]; rfl)) ?_; (with_reducible refine (laws_toAlarm.calls k _ _ l1_0 a1_1 a1_2 a1_3 t216 t219 t220 t221 _ ?side1 ?side2 A23.out).mono ?_); (case side1 => exact Kd.C_below HR1_0.out (by repeat (first | (with_reducible first | exact HB.out | apply aW1 | apply aW2 | apply aW3 | refine below_set ?_ GE186.out | refine below_set ?_ GE187.out | refine below_set ?_ GE208.out | refine below_set ?_ GE215.out) | exact HB.out))); (case side2 => exact HC1_0.out); rintro e w67 ⟨v217, rfl, ho0, hb⟩; refine ⟨_, rfl, ?_⟩; have n0_ := aM (Kd.R_elder' (by (with_reducible repeat (first | apply aR1 | apply aR2 | apply aR3)); exact (Kd.R_mono (Kd.R_far (p := ⟨gb215, 3, none⟩) (Kd.R_far (p := ⟨gb215, 2, none⟩) (Kd.R_far (p := ⟨gb215, 1, none⟩) (Kd.R_far (p := ⟨gb215, 0, none⟩) (Kd.R_types HO192.out BK215.out (by decide)) (fun _ hk => hk.2) (.slice Ao60 t209.length co60)) (fun _ hk => hk.2) (.int .i64 t212)) (fun _ hk => hk.2) (.int .i64 t213)) (fun _ hk => hk.2) (.string t214)) (fun _ h_ => h_.1))) (Kd.R_base ho0) hb); have n1_ := aM (Kd.R_elder' (by (with_reducible repeat (first | apply aR1 | apply aR2 | apply aR3)); exact (Kd.R_mono (Kd.R_far (p := ⟨gb215, 3, none⟩) (Kd.R_far (p := ⟨gb215, 2, none⟩) (Kd.R_far (p := ⟨gb215, 1, none⟩) (Kd.R_far (p := ⟨gb215, 0, none⟩) (Kd.R_types HO198.out BK215.out (by decide)) (fun _ hk => hk.2) (.slice Ao60 t209.length co60)) (fun _ hk => hk.2) (.int .i64 t212)) (fun _ hk => hk.2) (.int .i64 t213)) (fun _ hk => hk.2) (.string t214)) (fun _ h_ => h_.1))) (Kd.R_base ho0) hb); have n2_ := aM (Kd.R_elder' (by (with_reducible repeat (first | apply aR1 | apply aR2 | apply aR3)); exact (Kd.R_mono (Kd.R_far (p := ⟨gb215, 3, none⟩) (Kd.R_far (p := ⟨gb215, 2, none⟩) (Kd.R_far (p := ⟨gb215, 1, none⟩) (Kd.R_far (p := ⟨gb215, 0, none⟩) (Kd.R_types HO204.out BK215.out (by decide)) (fun _ hk => hk.2) (.slice Ao60 t209.length co60)) (fun _ hk => hk.2) (.int .i64 t212)) (fun _ hk => hk.2) (.int .i64 t213)) (fun _ hk => hk.2) (.string t214)) (fun _ h_ => h_.1))) (Kd.R_base ho0) hb); have n3_ := aM (Kd.R_elder' (by (with_reducible repeat (first | apply aR1 | apply aR2 | apply aR3)); exact (Kd.R_mono (Kd.R_far (p := ⟨gb215, 3, none⟩) (Kd.R_far (p := ⟨gb215, 2, none⟩) (Kd.R_far (p := ⟨gb215, 1, none⟩) (Kd.R_far (p := ⟨gb215, 0, none⟩) (Kd.R_types HO211.out BK215.out (by decide)) (fun _ hk => hk.2) (.slice Ao60 t209.length co60)) (fun _ hk => hk.2) (.int .i64 t212)) (fun _ hk => hk.2) (.int .i64 t213)) (fun _ hk => hk.2) (.string t214)) (fun _ h_ => h_.1))) (Kd.R_base ho0) hb); have n4_ := aM (Kd.R_lower (Kd.R_new' (Kd.R_new' (Kd.R_new' (Kd.R_new' ho0 (Kd.R_lt (by (with_reducible repeat (first | apply aR1 | apply aR2 | apply aR3)); exact (Kd.R_mono (Kd.R_far (p := ⟨gb215, 3, none⟩) (Kd.R_far (p := ⟨gb215, 2, none⟩) (Kd.R_far (p := ⟨gb215, 1, none⟩) (Kd.R_far (p := ⟨gb215, 0, none⟩) (Kd.R_types HO192.out BK215.out (by decide)) (fun _ hk => hk.2) (.slice Ao60 t209.length co60)) (fun _ hk => hk.2) (.int .i64 t212)) (fun _ hk => hk.2) (.int .i64 t213)) (fun _ hk => hk.2) (.string t214)) (fun _ h_ => h_.1))))) (Kd.R_lt (by (with_reducible repeat (first | apply aR1 | apply aR2 | apply aR3)); exact (Kd.R_mono (Kd.R_far (p := ⟨gb215, 3, none⟩) (Kd.R_far (p := ⟨gb215, 2, none⟩) (Kd.R_far (p := ⟨gb215, 1, none⟩) (Kd.R_far (p := ⟨gb215, 0, none⟩) (Kd.R_types HO198.out BK215.out (by decide)) (fun _ hk => hk.2) (.slice Ao60 t209.length co60)) (fun _ hk => hk.2) (.int .i64 t212)) (fun _ hk => hk.2) (.int .i64 t213)) (fun _ hk => hk.2) (.string t214)) (fun _ h_ => h_.1))))) (Kd.R_lt (by (with_reducible repeat (first | apply aR1 | apply aR2 | apply aR3)); exact (Kd.R_mono (Kd.R_far (p := ⟨gb215, 3, none⟩) (Kd.R_far (p := ⟨gb215, 2, none⟩) (Kd.R_far (p := ⟨gb215, 1, none⟩) (Kd.R_far (p := ⟨gb215, 0, none⟩) (Kd.R_types HO204.out BK215.out (by decide)) (fun _ hk => hk.2) (.slice Ao60 t209.length co60)) (fun _ hk => hk.2) (.int .i64 t212)) (fun _ hk => hk.2) (.int .i64 t213)) (fun _ hk => hk.2) (.string t214)) (fun _ h_ => h_.1))))) (Kd.R_lt (by (with_reducible repeat (first | apply aR1 | apply aR2 | apply aR3)); exact (Kd.R_mono (Kd.R_far (p := ⟨gb215, 3, none⟩) (Kd.R_far (p := ⟨gb215, 2, none⟩) (Kd.R_far (p := ⟨gb215, 1, none⟩) (Kd.R_far (p := ⟨gb215, 0, none⟩) (Kd.R_types HO211.out BK215.out (by decide)) (fun _ hk => hk.2) (.slice Ao60 t209.length co60)) (fun _ hk => hk.2) (.int .i64 t212)) (fun _ hk => hk.2) (.int .i64 t213)) (fun _ hk => hk.2) (.string t214)) (fun _ h_ => h_.1))))) (below_size (by repeat (first | (with_reducible first | exact HB.out | apply aW1 | apply aW2 | apply aW3 | refine below_set ?_ GE186.out | refine below_set ?_ GE187.out | refine below_set ?_ GE208.out | refine below_set ?_ GE215.out) | exact HB.out)))); have n5_ := aM (blk_below (g := gb186) (o := .cells #[.slice A0_0 l0_0.length c0_0, .int .i64 a0_1, .int .i64 a0_2, .string a0_3] 37 (0, 0)) (by (with_reducible repeat (first | refine aB1 ?_ _ | refine aB2 ?_ | refine aB3 ?_ _)); refine blk_far ?_ NB186_215.out _; (with_reducible repeat (first | refine aB1 ?_ _ | refine aB2 ?_ | refine aB3 ?_ _)); refine blk_far ?_ NB186_215.out _; (with_reducible repeat (first | refine aB1 ?_ _ | refine aB2 ?_ | refine aB3 ?_ _)); refine blk_far ?_ NB186_215.out _; (with_reducible repeat (first | refine aB1 ?_ _ | refine aB2 ?_ | refine aB3 ?_ _)); refine blk_far ?_ NB186_215.out _; (with_reducible repeat (first | refine aB1 ?_ _ | refine aB2 ?_ | refine aB3 ?_ _)); exact BK186.out) hb); have n6_ := aM (blk_below (g := gb187) (o := .cells #[.slice A1_0 l1_0.length c1_0, .int .i64 a1_1, .int .i64 a1_2, .string a1_3] 37 (0, 0)) (by (with_reducible repeat (first | refine aB1 ?_ _ | refine aB2 ?_ | refine aB3 ?_ _)); refine blk_far ?_ NB187_215.out _; (with_reducible repeat (first | refine aB1 ?_ _ | refine aB2 ?_ | refine aB3 ?_ _)); refine blk_far ?_ NB187_215.out _; (with_reducible repeat (first | refine aB1 ?_ _ | refine aB2 ?_ | refine aB3 ?_ _)); refine blk_far ?_ NB187_215.out _; (with_reducible repeat (first | refine aB1 ?_ _ | refine aB2 ?_ | refine aB3 ?_ _)); refine blk_far ?_ NB187_215.out _; (with_reducible repeat (first | refine aB1 ?_ _ | refine aB2 ?_ | refine aB3 ?_ _)); exact BK187.out) hb); have n7_ := aM (blk_below (g := gb208) (o := .cells #[.slice Ao51 t202.length co51, .int .i64 t205, .int .i64 t206, .string t207] 41 (0, 0)) (by (with_reducible repeat (first | refine aB1 ?_ _ | refine aB2 ?_ | refine aB3 ?_ _)); refine blk_far ?_ NB208_215.out _; (with_reducible repeat (first | refine aB1 ?_ _ | refine aB2 ?_ | refine aB3 ?_ _)); refine blk_far ?_ NB208_215.out _; (with_reducible repeat (first | refine aB1 ?_ _ | refine aB2 ?_ | refine aB3 ?_ _)); refine blk_far ?_ NB208_215.out _; (with_reducible repeat (first | refine aB1 ?_ _ | refine aB2 ?_ | refine aB3 ?_ _)); refine blk_far ?_ NB208_215.out _; (with_reducible repeat (first | refine aB1 ?_ _ | refine aB2 ?_ | refine aB3 ?_ _)); exact BK208.out) hb); have n8_ := aM (blk_below (g := gb215) (o := .cells #[.slice Ao60 t209.length co60, .int .i64 t212, .int .i64 t213, .string t214] 41 (0, 0)) (by (with_reducible repeat (first | refine aB1 ?_ _ | refine aB2 ?_ | refine aB3 ?_ _)); refine blk_put (cs := #[.slice Ao60 t209.length co60, .int .i64 t212, .int .i64 t213, .string (⟨#[]⟩ : ByteArray)]) ?_ 3 _ rfl; (with_reducible repeat (first | refine aB1 ?_ _ | refine aB2 ?_ | refine aB3 ?_ _)); refine blk_put (cs := #[.slice Ao60 t209.length co60, .int .i64 t212, .int .i64 0, .string (⟨#[]⟩ : ByteArray)]) ?_ 2 _ rfl; (with_reducible repeat (first | refine aB1 ?_ _ | refine aB2 ?_ | refine aB3 ?_ _)); refine blk_put (cs := #[.slice Ao60 t209.length co60, .int .i64 0, .int .i64 0, .string (⟨#[]⟩ : ByteArray)]) ?_ 1 _ rfl; (with_reducible repeat (first | refine aB1 ?_ _ | refine aB2 ?_ | refine aB3 ?_ _)); refine blk_put (cs := #[.slice none 0 0, .int .i64 0, .int .i64 0, .string (⟨#[]⟩ : ByteArray)]) ?_ 0 _ rfl; (with_reducible repeat (first | refine aB1 ?_ _ | refine aB2 ?_ | refine aB3 ?_ _)); exact BK215.out) hb); have n9_ := aM (below_step (by repeat (first | (with_reducible first | exact HB.out | apply aW1 | apply aW2 | apply aW3 | refine below_set ?_ GE186.out | refine below_set ?_ GE187.out | refine below_set ?_ GE208.out | refine below_set ?_ GE215.out) | exact HB.out)) hb); clear HO192 HO198 HO204 HO211 BK186 BK187 BK208 BK215 HB; have HO192 := n0_; have HO198 := n1_; have HO204 := n2_; have HO211 := n3_; have HO218 := n4_; have BK186 := n5_; have BK187 := n6_; have BK208 := n7_; have BK215 := n8_; have HB := n9_; clear n0_ n1_ n2_ n3_ n4_ n5_ n6_ n7_ n8_ n9_; (try clear hb); (try clear hb2); (try clear hk); (try clear hi); (try clear ho0)) | ((with_reducible refine gate_dst (N := 8) rfl ?_); refine box_event ?hg (N := 8) ?hd (cs := #[.slice none 0 0, .int .i64 0, .int .i64 0, .string (⟨#[]⟩ : ByteArray)]) (t := 41) ?hr ?_; (case hd => rfl); (case hg => rfl); (case hr => first | (go_simp; done) | (go_simp; rfl)); intro gb222 hg w68 hbox hb; have n0_ := rb HO192 hb; have n1_ := rb HO198 hb; have n2_ := rb HO204 hb; have n3_ := rb HO211 hb; have n4_ := rb HO218 hb; have n5_ := bb BK186 hb; have n6_ := bb BK187 hb; have n7_ := bb BK208 hb; have n8_ := bb BK215 hb; have n9_ := aM (below_step (by repeat (first | (with_reducible first | exact HB.out | apply aW1 | apply aW2 | apply aW3 | refine below_set ?_ GE186.out | refine below_set ?_ GE187.out | refine below_set ?_ GE208.out | refine below_set ?_ GE215.out) | exact HB.out)) hb); have n10_ := aM (hbox); have n11_ := aM ((by rw [hg]; exact (below_size (by repeat (first | (with_reducible first | exact HB.out | apply aW1 | apply aW2 | apply aW3 | refine below_set ?_ GE186.out | refine below_set ?_ GE187.out | refine below_set ?_ GE208.out | refine below_set ?_ GE215.out) | exact HB.out))) : w.heap.size ≤ gb222)); have n12_ := aM ((by rw [hg]; exact (below_size (by repeat (first | (with_reducible first | exact HB.out | apply aW1 | apply aW2 | apply aW3 | refine below_set ?_ GE186.out | refine below_set ?_ GE187.out | refine below_set ?_ GE208.out | refine below_set ?_ GE215.out) | exact HB.out))) : w.heap.size ≤ gb222)); have n13_ := aM ((by rw [hg]; exact Nat.ne_of_lt (blk_lt (g := gb186) (aB BK186)) : gb186 ≠ gb222)); have n14_ := aM ((by rw [hg]; exact Nat.ne_of_gt (blk_lt (g := gb186) (aB BK186)) : gb222 ≠ gb186)); have n15_ := aM ((by rw [hg]; exact Nat.ne_of_lt (blk_lt (g := gb187) (aB BK187)) : gb187 ≠ gb222)); have n16_ := aM ((by rw [hg]; exact Nat.ne_of_gt (blk_lt (g := gb187) (aB BK187)) : gb222 ≠ gb187)); have n17_ := aM ((by rw [hg]; exact Nat.ne_of_lt (blk_lt (g := gb208) (aB BK208)) : gb208 ≠ gb222)); have n18_ := aM ((by rw [hg]; exact Nat.ne_of_gt (blk_lt (g := gb208) (aB BK208)) : gb222 ≠ gb208)); have n19_ := aM ((by rw [hg]; exact Nat.ne_of_lt (blk_lt (g := gb215) (aB BK215)) : gb215 ≠ gb222)); have n20_ := aM ((by rw [hg]; exact Nat.ne_of_gt (blk_lt (g := gb215) (aB BK215)) : gb222 ≠ gb215)); clear HO192 HO198 HO204 HO211 HO218 BK186 BK187 BK208 BK215 HB; have HO192 := n0_; have HO198 := n1_; have HO204 := n2_; have HO211 := n3_; have HO218 := n4_; have BK186 := n5_; have BK187 := n6_; have BK208 := n7_; have BK215 := n8_; have HB := n9_; have BK222 := n10_; have GW222 := n11_; have GE222 := n12_; have NB186_222 := n13_; have NB222_186 := n14_; have NB187_222 := n15_; have NB222_187 := n16_; have NB208_222 := n17_; have NB222_208 := n18_; have NB215_222 := n19_; have NB222_215 := n20_; clear n0_ n1_ n2_ n3_ n4_ n5_ n6_ n7_ n8_ n9_ n10_ n11_ n12_ n13_ n14_ n15_ n16_ n17_ n18_ n19_ n20_ hb hbox hg; obtain ⟨Ao69, co69, eo69⟩ := Kd.R_slice HO218.out; subst eo69; have hnb70 := NB222_186.out; have hnc70 := NB186_222.out; have hnb71 := NB222_187.out; have hnc71 := NB187_222.out; have hnb72 := NB222_208.out; have hnc72 := NB208_222.out; have hnb73 := NB222_215.out; have hnc73 := NB215_222.out; have hcz74_0 := cz4_0 BK222; have hcz74_1 := cz4_1 BK222; have hcz74_2 := cz4_2 BK222; have hcz74_3 := cz4_3 BK222; have hfz74_0 := blk_frozen BK222.out 0; have hfz74_1 := blk_frozen BK222.out 1; have hfz74_2 := blk_frozen BK222.out 2; have hfz74_3 := blk_frozen BK222.out 3; have hcz75_0 := cz4_0 BK215; have hcz75_1 := cz4_1 BK215; have hcz75_2 := cz4_2 BK215; have hcz75_3 := cz4_3 BK215; have hfz75_0 := blk_frozen BK215.out 0; have hfz75_1 := blk_frozen BK215.out 1; have hfz75_2 := blk_frozen BK215.out 2; have hfz75_3 := blk_frozen BK215.out 3) | ((with_reducible refine gate_callee (f := 35) rfl ?_); refine goesL_ (some 35) rfl rfl Try.func35 (by kernel_rfl) rfl #[.agg #[.slice Ao60 t209.length co60, .int .i64 t212, .int .i64 t213, .string t214], .agg #[.slice Ao69 t216.length co69, .int .i64 t219, .int .i64 t220, .string t221]] rfl (by (try simp only [List.map_toArray, List.map_cons, List.map_nil]); first | done | rfl | (simp only [List.length_drop, List.length_take]; rfl)) ?_; (with_reducible refine (impl_Merge.calls _ _ t209 t212 t213 t214 _ _ t216 t219 t220 t221 t223 t226 t227 t228 _ ?side1 ?side2 ?side3 ?side4 A24.out).mono ?_); (case side1 => refine (Kd.R_reads' (e := 90) (base := w.heap.size) (ok := fun k_ => ((((True ∧ some k_ ≠ (v191 : Value).ownBlock) ∧ some k_ ≠ (v197 : Value).ownBlock) ∧ some k_ ≠ (.slice Ao51 t202.length co51 : Value).ownBlock) ∧ some k_ ≠ (.slice Ao69 t216.length co69 : Value).ownBlock)) (n := t209.length) (c := co60) ?_).2.2; exact (by (with_reducible repeat (first | apply aR1 | apply aR2 | apply aR3)); exact (Kd.R_mono (Kd.R_far (p := ⟨gb222, 3, none⟩) (Kd.R_far (p := ⟨gb222, 2, none⟩) (Kd.R_far (p := ⟨gb222, 1, none⟩) (Kd.R_far (p := ⟨gb222, 0, none⟩) (Kd.R_types HO211.out BK222.out (by decide)) (fun _ hk => hk.2) (.slice Ao69 t216.length co69)) (fun _ hk => hk.2) (.int .i64 t219)) (fun _ hk => hk.2) (.int .i64 t220)) (fun _ hk => hk.2) (.string t221)) (fun _ h_ => h_.1)))); (case side2 => exact (Kd.R_reads' HO211.out).2.1); (case side3 => refine (Kd.R_reads' (e := 90) (base := w.heap.size) (ok := fun k_ => ((((True ∧ some k_ ≠ (v191 : Value).ownBlock) ∧ some k_ ≠ (v197 : Value).ownBlock) ∧ some k_ ≠ (.slice Ao51 t202.length co51 : Value).ownBlock) ∧ some k_ ≠ (.slice Ao60 t209.length co60 : Value).ownBlock)) (n := t216.length) (c := co69) ?_).2.2; exact (by (with_reducible repeat (first | apply aR1 | apply aR2 | apply aR3)); exact (Kd.R_mono (Kd.R_far (p := ⟨gb222, 3, none⟩) (Kd.R_far (p := ⟨gb222, 2, none⟩) (Kd.R_far (p := ⟨gb222, 1, none⟩) (Kd.R_far (p := ⟨gb222, 0, none⟩) (Kd.R_types HO218.out BK222.out (by decide)) (fun _ hk => hk.2) (.slice Ao69 t216.length co69)) (fun _ hk => hk.2) (.int .i64 t219)) (fun _ hk => hk.2) (.int .i64 t220)) (fun _ hk => hk.2) (.string t221)) (fun _ h_ => h_.1)))); (case side4 => exact (Kd.R_reads' HO218.out).2.1); rintro e w76 ⟨v224, rfl, ho0, hb⟩; refine ⟨_, rfl, ?_⟩; have n0_ := aM (Kd.R_elder' (by (with_reducible repeat (first | apply aR1 | apply aR2 | apply aR3)); exact (Kd.R_mono (Kd.R_far (p := ⟨gb222, 3, none⟩) (Kd.R_far (p := ⟨gb222, 2, none⟩) (Kd.R_far (p := ⟨gb222, 1, none⟩) (Kd.R_far (p := ⟨gb222, 0, none⟩) (Kd.R_types HO192.out BK222.out (by decide)) (fun _ hk => hk.2) (.slice Ao69 t216.length co69)) (fun _ hk => hk.2) (.int .i64 t219)) (fun _ hk => hk.2) (.int .i64 t220)) (fun _ hk => hk.2) (.string t221)) (fun _ h_ => h_.1))) (Kd.R_base ho0) hb); have n1_ := aM (Kd.R_elder' (by (with_reducible repeat (first | apply aR1 | apply aR2 | apply aR3)); exact (Kd.R_mono (Kd.R_far (p := ⟨gb222, 3, none⟩) (Kd.R_far (p := ⟨gb222, 2, none⟩) (Kd.R_far (p := ⟨gb222, 1, none⟩) (Kd.R_far (p := ⟨gb222, 0, none⟩) (Kd.R_types HO198.out BK222.out (by decide)) (fun _ hk => hk.2) (.slice Ao69 t216.length co69)) (fun _ hk => hk.2) (.int .i64 t219)) (fun _ hk => hk.2) (.int .i64 t220)) (fun _ hk => hk.2) (.string t221)) (fun _ h_ => h_.1))) (Kd.R_base ho0) hb); have n2_ := aM (Kd.R_elder' (by (with_reducible repeat (first | apply aR1 | apply aR2 | apply aR3)); exact (Kd.R_mono (Kd.R_far (p := ⟨gb222, 3, none⟩) (Kd.R_far (p := ⟨gb222, 2, none⟩) (Kd.R_far (p := ⟨gb222, 1, none⟩) (Kd.R_far (p := ⟨gb222, 0, none⟩) (Kd.R_types HO204.out BK222.out (by decide)) (fun _ hk => hk.2) (.slice Ao69 t216.length co69)) (fun _ hk => hk.2) (.int .i64 t219)) (fun _ hk => hk.2) (.int .i64 t220)) (fun _ hk => hk.2) (.string t221)) (fun _ h_ => h_.1))) (Kd.R_base ho0) hb); have n3_ := aM (Kd.R_elder' (by (with_reducible repeat (first | apply aR1 | apply aR2 | apply aR3)); exact (Kd.R_mono (Kd.R_far (p := ⟨gb222, 3, none⟩) (Kd.R_far (p := ⟨gb222, 2, none⟩) (Kd.R_far (p := ⟨gb222, 1, none⟩) (Kd.R_far (p := ⟨gb222, 0, none⟩) (Kd.R_types HO211.out BK222.out (by decide)) (fun _ hk => hk.2) (.slice Ao69 t216.length co69)) (fun _ hk => hk.2) (.int .i64 t219)) (fun _ hk => hk.2) (.int .i64 t220)) (fun _ hk => hk.2) (.string t221)) (fun _ h_ => h_.1))) (Kd.R_base ho0) hb); have n4_ := aM (Kd.R_elder' (by (with_reducible repeat (first | apply aR1 | apply aR2 | apply aR3)); exact (Kd.R_mono (Kd.R_far (p := ⟨gb222, 3, none⟩) (Kd.R_far (p := ⟨gb222, 2, none⟩) (Kd.R_far (p := ⟨gb222, 1, none⟩) (Kd.R_far (p := ⟨gb222, 0, none⟩) (Kd.R_types HO218.out BK222.out (by decide)) (fun _ hk => hk.2) (.slice Ao69 t216.length co69)) (fun _ hk => hk.2) (.int .i64 t219)) (fun _ hk => hk.2) (.int .i64 t220)) (fun _ hk => hk.2) (.string t221)) (fun _ h_ => h_.1))) (Kd.R_base ho0) hb); have n5_ := aM (Kd.R_lower (Kd.R_new' (Kd.R_new' (Kd.R_new' (Kd.R_new' (Kd.R_new' ho0 (Kd.R_lt (by (with_reducible repeat (first | apply aR1 | apply aR2 | apply aR3)); exact (Kd.R_mono (Kd.R_far (p := ⟨gb222, 3, none⟩) (Kd.R_far (p := ⟨gb222, 2, none⟩) (Kd.R_far (p := ⟨gb222, 1, none⟩) (Kd.R_far (p := ⟨gb222, 0, none⟩) (Kd.R_types HO192.out BK222.out (by decide)) (fun _ hk => hk.2) (.slice Ao69 t216.length co69)) (fun _ hk => hk.2) (.int .i64 t219)) (fun _ hk => hk.2) (.int .i64 t220)) (fun _ hk => hk.2) (.string t221)) (fun _ h_ => h_.1))))) (Kd.R_lt (by (with_reducible repeat (first | apply aR1 | apply aR2 | apply aR3)); exact (Kd.R_mono (Kd.R_far (p := ⟨gb222, 3, none⟩) (Kd.R_far (p := ⟨gb222, 2, none⟩) (Kd.R_far (p := ⟨gb222, 1, none⟩) (Kd.R_far (p := ⟨gb222, 0, none⟩) (Kd.R_types HO198.out BK222.out (by decide)) (fun _ hk => hk.2) (.slice Ao69 t216.length co69)) (fun _ hk => hk.2) (.int .i64 t219)) (fun _ hk => hk.2) (.int .i64 t220)) (fun _ hk => hk.2) (.string t221)) (fun _ h_ => h_.1))))) (Kd.R_lt (by (with_reducible repeat (first | apply aR1 | apply aR2 | apply aR3)); exact (Kd.R_mono (Kd.R_far (p := ⟨gb222, 3, none⟩) (Kd.R_far (p := ⟨gb222, 2, none⟩) (Kd.R_far (p := ⟨gb222, 1, none⟩) (Kd.R_far (p := ⟨gb222, 0, none⟩) (Kd.R_types HO204.out BK222.out (by decide)) (fun _ hk => hk.2) (.slice Ao69 t216.length co69)) (fun _ hk => hk.2) (.int .i64 t219)) (fun _ hk => hk.2) (.int .i64 t220)) (fun _ hk => hk.2) (.string t221)) (fun _ h_ => h_.1))))) (Kd.R_lt (by (with_reducible repeat (first | apply aR1 | apply aR2 | apply aR3)); exact (Kd.R_mono (Kd.R_far (p := ⟨gb222, 3, none⟩) (Kd.R_far (p := ⟨gb222, 2, none⟩) (Kd.R_far (p := ⟨gb222, 1, none⟩) (Kd.R_far (p := ⟨gb222, 0, none⟩) (Kd.R_types HO211.out BK222.out (by decide)) (fun _ hk => hk.2) (.slice Ao69 t216.length co69)) (fun _ hk => hk.2) (.int .i64 t219)) (fun _ hk => hk.2) (.int .i64 t220)) (fun _ hk => hk.2) (.string t221)) (fun _ h_ => h_.1))))) (Kd.R_lt (by (with_reducible repeat (first | apply aR1 | apply aR2 | apply aR3)); exact (Kd.R_mono (Kd.R_far (p := ⟨gb222, 3, none⟩) (Kd.R_far (p := ⟨gb222, 2, none⟩) (Kd.R_far (p := ⟨gb222, 1, none⟩) (Kd.R_far (p := ⟨gb222, 0, none⟩) (Kd.R_types HO218.out BK222.out (by decide)) (fun _ hk => hk.2) (.slice Ao69 t216.length co69)) (fun _ hk => hk.2) (.int .i64 t219)) (fun _ hk => hk.2) (.int .i64 t220)) (fun _ hk => hk.2) (.string t221)) (fun _ h_ => h_.1))))) (below_size (by repeat (first | (with_reducible first | exact HB.out | apply aW1 | apply aW2 | apply aW3 | refine below_set ?_ GE186.out | refine below_set ?_ GE187.out | refine below_set ?_ GE208.out | refine below_set ?_ GE215.out | refine below_set ?_ GE222.out) | exact HB.out)))); have n6_ := aM (blk_below (g := gb186) (o := .cells #[.slice A0_0 l0_0.length c0_0, .int .i64 a0_1, .int .i64 a0_2, .string a0_3] 37 (0, 0)) (by (with_reducible repeat (first | refine aB1 ?_ _ | refine aB2 ?_ | refine aB3 ?_ _)); refine blk_far ?_ NB186_222.out _; (with_reducible repeat (first | refine aB1 ?_ _ | refine aB2 ?_ | refine aB3 ?_ _)); refine blk_far ?_ NB186_222.out _; (with_reducible repeat (first | refine aB1 ?_ _ | refine aB2 ?_ | refine aB3 ?_ _)); refine blk_far ?_ NB186_222.out _; (with_reducible repeat (first | refine aB1 ?_ _ | refine aB2 ?_ | refine aB3 ?_ _)); refine blk_far ?_ NB186_222.out _; (with_reducible repeat (first | refine aB1 ?_ _ | refine aB2 ?_ | refine aB3 ?_ _)); exact BK186.out) hb); have n7_ := aM (blk_below (g := gb187) (o := .cells #[.slice A1_0 l1_0.length c1_0, .int .i64 a1_1, .int .i64 a1_2, .string a1_3] 37 (0, 0)) (by (with_reducible repeat (first | refine aB1 ?_ _ | refine aB2 ?_ | refine aB3 ?_ _)); refine blk_far ?_ NB187_222.out _; (with_reducible repeat (first | refine aB1 ?_ _ | refine aB2 ?_ | refine aB3 ?_ _)); refine blk_far ?_ NB187_222.out _; (with_reducible repeat (first | refine aB1 ?_ _ | refine aB2 ?_ | refine aB3 ?_ _)); refine blk_far ?_ NB187_222.out _; (with_reducible repeat (first | refine aB1 ?_ _ | refine aB2 ?_ | refine aB3 ?_ _)); refine blk_far ?_ NB187_222.out _; (with_reducible repeat (first | refine aB1 ?_ _ | refine aB2 ?_ | refine aB3 ?_ _)); exact BK187.out) hb); have n8_ := aM (blk_below (g := gb208) (o := .cells #[.slice Ao51 t202.length co51, .int .i64 t205, .int .i64 t206, .string t207] 41 (0, 0)) (by (with_reducible repeat (first | refine aB1 ?_ _ | refine aB2 ?_ | refine aB3 ?_ _)); refine blk_far ?_ NB208_222.out _; (with_reducible repeat (first | refine aB1 ?_ _ | refine aB2 ?_ | refine aB3 ?_ _)); refine blk_far ?_ NB208_222.out _; (with_reducible repeat (first | refine aB1 ?_ _ | refine aB2 ?_ | refine aB3 ?_ _)); refine blk_far ?_ NB208_222.out _; (with_reducible repeat (first | refine aB1 ?_ _ | refine aB2 ?_ | refine aB3 ?_ _)); refine blk_far ?_ NB208_222.out _; (with_reducible repeat (first | refine aB1 ?_ _ | refine aB2 ?_ | refine aB3 ?_ _)); exact BK208.out) hb); have n9_ := aM (blk_below (g := gb215) (o := .cells #[.slice Ao60 t209.length co60, .int .i64 t212, .int .i64 t213, .string t214] 41 (0, 0)) (by (with_reducible repeat (first | refine aB1 ?_ _ | refine aB2 ?_ | refine aB3 ?_ _)); refine blk_far ?_ NB215_222.out _; (with_reducible repeat (first | refine aB1 ?_ _ | refine aB2 ?_ | refine aB3 ?_ _)); refine blk_far ?_ NB215_222.out _; (with_reducible repeat (first | refine aB1 ?_ _ | refine aB2 ?_ | refine aB3 ?_ _)); refine blk_far ?_ NB215_222.out _; (with_reducible repeat (first | refine aB1 ?_ _ | refine aB2 ?_ | refine aB3 ?_ _)); refine blk_far ?_ NB215_222.out _; (with_reducible repeat (first | refine aB1 ?_ _ | refine aB2 ?_ | refine aB3 ?_ _)); exact BK215.out) hb); have n10_ := aM (blk_below (g := gb222) (o := .cells #[.slice Ao69 t216.length co69, .int .i64 t219, .int .i64 t220, .string t221] 41 (0, 0)) (by (with_reducible repeat (first | refine aB1 ?_ _ | refine aB2 ?_ | refine aB3 ?_ _)); refine blk_put (cs := #[.slice Ao69 t216.length co69, .int .i64 t219, .int .i64 t220, .string (⟨#[]⟩ : ByteArray)]) ?_ 3 _ rfl; (with_reducible repeat (first | refine aB1 ?_ _ | refine aB2 ?_ | refine aB3 ?_ _)); refine blk_put (cs := #[.slice Ao69 t216.length co69, .int .i64 t219, .int .i64 0, .string (⟨#[]⟩ : ByteArray)]) ?_ 2 _ rfl; (with_reducible repeat (first | refine aB1 ?_ _ | refine aB2 ?_ | refine aB3 ?_ _)); refine blk_put (cs := #[.slice Ao69 t216.length co69, .int .i64 0, .int .i64 0, .string (⟨#[]⟩ : ByteArray)]) ?_ 1 _ rfl; (with_reducible repeat (first | refine aB1 ?_ _ | refine aB2 ?_ | refine aB3 ?_ _)); refine blk_put (cs := #[.slice none 0 0, .int .i64 0, .int .i64 0, .string (⟨#[]⟩ : ByteArray)]) ?_ 0 _ rfl; (with_reducible repeat (first | refine aB1 ?_ _ | refine aB2 ?_ | refine aB3 ?_ _)); exact BK222.out) hb); have n11_ := aM (below_step (by repeat (first | (with_reducible first | exact HB.out | apply aW1 | apply aW2 | apply aW3 | refine below_set ?_ GE186.out | refine below_set ?_ GE187.out | refine below_set ?_ GE208.out | refine below_set ?_ GE215.out | refine below_set ?_ GE222.out) | exact HB.out)) hb); clear HO192 HO198 HO204 HO211 HO218 BK186 BK187 BK208 BK215 BK222 HB; have HO192 := n0_; have HO198 := n1_; have HO204 := n2_; have HO211 := n3_; have HO218 := n4_; have HO225 := n5_; have BK186 := n6_; have BK187 := n7_; have BK208 := n8_; have BK215 := n9_; have BK222 := n10_; have HB := n11_; clear n0_ n1_ n2_ n3_ n4_ n5_ n6_ n7_ n8_ n9_ n10_ n11_; (try clear hb); (try clear hb2); (try clear hk); (try clear hi); (try clear ho0)) | ((with_reducible refine gate_dst (N := 9) rfl ?_); refine box_event ?hg (N := 9) ?hd (cs := #[.slice none 0 0, .int .i64 0, .int .i64 0, .string (⟨#[]⟩ : ByteArray)]) (t := 41) ?hr ?_; (case hd => rfl); (case hg => rfl); (case hr => first | (go_simp; done) | (go_simp; rfl)); intro gb229 hg w77 hbox hb; have n0_ := rb HO192 hb; have n1_ := rb HO198 hb; have n2_ := rb HO204 hb; have n3_ := rb HO211 hb; have n4_ := rb HO218 hb; have n5_ := rb HO225 hb; have n6_ := bb BK186 hb; have n7_ := bb BK187 hb; have n8_ := bb BK208 hb; have n9_ := bb BK215 hb; have n10_ := bb BK222 hb; have n11_ := aM (below_step (by repeat (first | (with_reducible first | exact HB.out | apply aW1 | apply aW2 | apply aW3 | refine below_set ?_ GE186.out | refine below_set ?_ GE187.out | refine below_set ?_ GE208.out | refine below_set ?_ GE215.out | refine below_set ?_ GE222.out) | exact HB.out)) hb); have n12_ := aM (hbox); have n13_ := aM ((by rw [hg]; exact (below_size (by repeat (first | (with_reducible first | exact HB.out | apply aW1 | apply aW2 | apply aW3 | refine below_set ?_ GE186.out | refine below_set ?_ GE187.out | refine below_set ?_ GE208.out | refine below_set ?_ GE215.out | refine below_set ?_ GE222.out) | exact HB.out))) : w.heap.size ≤ gb229)); have n14_ := aM ((by rw [hg]; exact (below_size (by repeat (first | (with_reducible first | exact HB.out | apply aW1 | apply aW2 | apply aW3 | refine below_set ?_ GE186.out | refine below_set ?_ GE187.out | refine below_set ?_ GE208.out | refine below_set ?_ GE215.out | refine below_set ?_ GE222.out) | exact HB.out))) : w.heap.size ≤ gb229)); have n15_ := aM ((by rw [hg]; exact Nat.ne_of_lt (blk_lt (g := gb186) (aB BK186)) : gb186 ≠ gb229)); have n16_ := aM ((by rw [hg]; exact Nat.ne_of_gt (blk_lt (g := gb186) (aB BK186)) : gb229 ≠ gb186)); have n17_ := aM ((by rw [hg]; exact Nat.ne_of_lt (blk_lt (g := gb187) (aB BK187)) : gb187 ≠ gb229)); have n18_ := aM ((by rw [hg]; exact Nat.ne_of_gt (blk_lt (g := gb187) (aB BK187)) : gb229 ≠ gb187)); have n19_ := aM ((by rw [hg]; exact Nat.ne_of_lt (blk_lt (g := gb208) (aB BK208)) : gb208 ≠ gb229)); have n20_ := aM ((by rw [hg]; exact Nat.ne_of_gt (blk_lt (g := gb208) (aB BK208)) : gb229 ≠ gb208)); have n21_ := aM ((by rw [hg]; exact Nat.ne_of_lt (blk_lt (g := gb215) (aB BK215)) : gb215 ≠ gb229)); have n22_ := aM ((by rw [hg]; exact Nat.ne_of_gt (blk_lt (g := gb215) (aB BK215)) : gb229 ≠ gb215)); have n23_ := aM ((by rw [hg]; exact Nat.ne_of_lt (blk_lt (g := gb222) (aB BK222)) : gb222 ≠ gb229)); have n24_ := aM ((by rw [hg]; exact Nat.ne_of_gt (blk_lt (g := gb222) (aB BK222)) : gb229 ≠ gb222)); clear HO192 HO198 HO204 HO211 HO218 HO225 BK186 BK187 BK208 BK215 BK222 HB; have HO192 := n0_; have HO198 := n1_; have HO204 := n2_; have HO211 := n3_; have HO218 := n4_; have HO225 := n5_; have BK186 := n6_; have BK187 := n7_; have BK208 := n8_; have BK215 := n9_; have BK222 := n10_; have HB := n11_; have BK229 := n12_; have GW229 := n13_; have GE229 := n14_; have NB186_229 := n15_; have NB229_186 := n16_; have NB187_229 := n17_; have NB229_187 := n18_; have NB208_229 := n19_; have NB229_208 := n20_; have NB215_229 := n21_; have NB229_215 := n22_; have NB222_229 := n23_; have NB229_222 := n24_; clear n0_ n1_ n2_ n3_ n4_ n5_ n6_ n7_ n8_ n9_ n10_ n11_ n12_ n13_ n14_ n15_ n16_ n17_ n18_ n19_ n20_ n21_ n22_ n23_ n24_ hb hbox hg; obtain ⟨Ao78, co78, eo78⟩ := Kd.R_slice HO225.out; subst eo78; have hnb79 := NB229_186.out; have hnc79 := NB186_229.out; have hnb80 := NB229_187.out; have hnc80 := NB187_229.out; have hnb81 := NB229_208.out; have hnc81 := NB208_229.out; have hnb82 := NB229_215.out; have hnc82 := NB215_229.out; have hnb83 := NB229_222.out; have hnc83 := NB222_229.out; have hcz84_0 := cz4_0 BK229; have hcz84_1 := cz4_1 BK229; have hcz84_2 := cz4_2 BK229; have hcz84_3 := cz4_3 BK229; have hfz84_0 := blk_frozen BK229.out 0; have hfz84_1 := blk_frozen BK229.out 1; have hfz84_2 := blk_frozen BK229.out 2; have hfz84_3 := blk_frozen BK229.out 3; have hcz85_0 : w77.cell? ⟨gb208, 0, none⟩ = some (.slice Ao51 t202.length co51) := (blk_cell BK208.out 0).trans rfl; have hcz85_1 : w77.cell? ⟨gb208, 1, none⟩ = some (.int .i64 t205) := (blk_cell BK208.out 1).trans rfl; have hcz85_2 : w77.cell? ⟨gb208, 2, none⟩ = some (.int .i64 t206) := (blk_cell BK208.out 2).trans rfl; have hcz85_3 : w77.cell? ⟨gb208, 3, none⟩ = some (.string t207) := (blk_cell BK208.out 3).trans rfl; have hfz85_0 := blk_frozen BK208.out 0; have hfz85_1 := blk_frozen BK208.out 1; have hfz85_2 := blk_frozen BK208.out 2; have hfz85_3 := blk_frozen BK208.out 3) | ((with_reducible refine gate_callee (f := 36) rfl ?_); refine goesL_ (some 38) rfl rfl Try.func36 (by kernel_rfl) rfl #[.agg #[.slice Ao78 t223.length co78, .int .i64 t226, .int .i64 t227, .string t228], .agg #[.slice Ao51 t202.length co51, .int .i64 t205, .int .i64 t206, .string t207]] rfl (by (try simp only [List.map_toArray, List.map_cons, List.map_nil]); first | done | rfl | (simp only [List.length_drop, List.length_take]; rfl)) ?_; (with_reducible refine (laws_eqAlarm.calls k _ _ t223 t226 t227 t228 _ _ t202 t205 t206 t207 true _ ?side1 ?side2 ?side3 ?side4 A25.out).mono ?_); (case side1 => refine (Kd.R_reads' (e := 90) (base := w.heap.size) (ok := fun k_ => (((((True ∧ some k_ ≠ (v191 : Value).ownBlock) ∧ some k_ ≠ (v197 : Value).ownBlock) ∧ some k_ ≠ (.slice Ao51 t202.length co51 : Value).ownBlock) ∧ some k_ ≠ (.slice Ao60 t209.length co60 : Value).ownBlock) ∧ some k_ ≠ (.slice Ao69 t216.length co69 : Value).ownBlock)) (n := t223.length) (c := co78) ?_).2.2; exact (by (with_reducible repeat (first | apply aR1 | apply aR2 | apply aR3)); exact (Kd.R_mono (Kd.R_far (p := ⟨gb229, 3, none⟩) (Kd.R_far (p := ⟨gb229, 2, none⟩) (Kd.R_far (p := ⟨gb229, 1, none⟩) (Kd.R_far (p := ⟨gb229, 0, none⟩) (Kd.R_types HO225.out BK229.out (by decide)) (fun _ hk => hk.2) (.slice Ao78 t223.length co78)) (fun _ hk => hk.2) (.int .i64 t226)) (fun _ hk => hk.2) (.int .i64 t227)) (fun _ hk => hk.2) (.string t228)) (fun _ h_ => h_.1)))); (case side2 => exact (Kd.R_reads' HO225.out).2.1); (case side3 => refine (Kd.R_reads' (e := 90) (base := w.heap.size) (ok := fun k_ => ((((some k_ ≠ (v191 : Value).ownBlock ∧ some k_ ≠ (v197 : Value).ownBlock) ∧ some k_ ≠ (.slice Ao60 t209.length co60 : Value).ownBlock) ∧ some k_ ≠ (.slice Ao69 t216.length co69 : Value).ownBlock) ∧ some k_ ≠ (.slice Ao78 t223.length co78 : Value).ownBlock)) (n := t202.length) (c := co51) ?_).2.2; exact (by (with_reducible repeat (first | apply aR1 | apply aR2 | apply aR3)); exact (Kd.R_mono (Kd.R_far (p := ⟨gb229, 3, none⟩) (Kd.R_far (p := ⟨gb229, 2, none⟩) (Kd.R_far (p := ⟨gb229, 1, none⟩) (Kd.R_far (p := ⟨gb229, 0, none⟩) (Kd.R_types HO204.out BK229.out (by decide)) (fun _ hk => hk.2) (.slice Ao78 t223.length co78)) (fun _ hk => hk.2) (.int .i64 t226)) (fun _ hk => hk.2) (.int .i64 t227)) (fun _ hk => hk.2) (.string t228)) (fun _ h_ => h_.1)))); (case side4 => exact (Kd.R_reads' HO204.out).2.1); rintro e w86 ⟨rfl, hb⟩; refine ⟨_, rfl, ?_⟩; have n0_ := aM (Kd.R_below (by (with_reducible repeat (first | apply aR1 | apply aR2 | apply aR3)); exact (Kd.R_mono (Kd.R_far (p := ⟨gb229, 3, none⟩) (Kd.R_far (p := ⟨gb229, 2, none⟩) (Kd.R_far (p := ⟨gb229, 1, none⟩) (Kd.R_far (p := ⟨gb229, 0, none⟩) (Kd.R_types HO192.out BK229.out (by decide)) (fun _ hk => hk.2) (.slice Ao78 t223.length co78)) (fun _ hk => hk.2) (.int .i64 t226)) (fun _ hk => hk.2) (.int .i64 t227)) (fun _ hk => hk.2) (.string t228)) (fun _ h_ => h_.1))) hb); have n1_ := aM (Kd.R_below (by (with_reducible repeat (first | apply aR1 | apply aR2 | apply aR3)); exact (Kd.R_mono (Kd.R_far (p := ⟨gb229, 3, none⟩) (Kd.R_far (p := ⟨gb229, 2, none⟩) (Kd.R_far (p := ⟨gb229, 1, none⟩) (Kd.R_far (p := ⟨gb229, 0, none⟩) (Kd.R_types HO198.out BK229.out (by decide)) (fun _ hk => hk.2) (.slice Ao78 t223.length co78)) (fun _ hk => hk.2) (.int .i64 t226)) (fun _ hk => hk.2) (.int .i64 t227)) (fun _ hk => hk.2) (.string t228)) (fun _ h_ => h_.1))) hb); have n2_ := aM (Kd.R_below (by (with_reducible repeat (first | apply aR1 | apply aR2 | apply aR3)); exact (Kd.R_mono (Kd.R_far (p := ⟨gb229, 3, none⟩) (Kd.R_far (p := ⟨gb229, 2, none⟩) (Kd.R_far (p := ⟨gb229, 1, none⟩) (Kd.R_far (p := ⟨gb229, 0, none⟩) (Kd.R_types HO204.out BK229.out (by decide)) (fun _ hk => hk.2) (.slice Ao78 t223.length co78)) (fun _ hk => hk.2) (.int .i64 t226)) (fun _ hk => hk.2) (.int .i64 t227)) (fun _ hk => hk.2) (.string t228)) (fun _ h_ => h_.1))) hb); have n3_ := aM (Kd.R_below (by (with_reducible repeat (first | apply aR1 | apply aR2 | apply aR3)); exact (Kd.R_mono (Kd.R_far (p := ⟨gb229, 3, none⟩) (Kd.R_far (p := ⟨gb229, 2, none⟩) (Kd.R_far (p := ⟨gb229, 1, none⟩) (Kd.R_far (p := ⟨gb229, 0, none⟩) (Kd.R_types HO211.out BK229.out (by decide)) (fun _ hk => hk.2) (.slice Ao78 t223.length co78)) (fun _ hk => hk.2) (.int .i64 t226)) (fun _ hk => hk.2) (.int .i64 t227)) (fun _ hk => hk.2) (.string t228)) (fun _ h_ => h_.1))) hb); have n4_ := aM (Kd.R_below (by (with_reducible repeat (first | apply aR1 | apply aR2 | apply aR3)); exact (Kd.R_mono (Kd.R_far (p := ⟨gb229, 3, none⟩) (Kd.R_far (p := ⟨gb229, 2, none⟩) (Kd.R_far (p := ⟨gb229, 1, none⟩) (Kd.R_far (p := ⟨gb229, 0, none⟩) (Kd.R_types HO218.out BK229.out (by decide)) (fun _ hk => hk.2) (.slice Ao78 t223.length co78)) (fun _ hk => hk.2) (.int .i64 t226)) (fun _ hk => hk.2) (.int .i64 t227)) (fun _ hk => hk.2) (.string t228)) (fun _ h_ => h_.1))) hb); have n5_ := aM (Kd.R_below (by (with_reducible repeat (first | apply aR1 | apply aR2 | apply aR3)); exact (Kd.R_mono (Kd.R_far (p := ⟨gb229, 3, none⟩) (Kd.R_far (p := ⟨gb229, 2, none⟩) (Kd.R_far (p := ⟨gb229, 1, none⟩) (Kd.R_far (p := ⟨gb229, 0, none⟩) (Kd.R_types HO225.out BK229.out (by decide)) (fun _ hk => hk.2) (.slice Ao78 t223.length co78)) (fun _ hk => hk.2) (.int .i64 t226)) (fun _ hk => hk.2) (.int .i64 t227)) (fun _ hk => hk.2) (.string t228)) (fun _ h_ => h_.1))) hb); have n6_ := aM (blk_below (g := gb186) (o := .cells #[.slice A0_0 l0_0.length c0_0, .int .i64 a0_1, .int .i64 a0_2, .string a0_3] 37 (0, 0)) (by (with_reducible repeat (first | refine aB1 ?_ _ | refine aB2 ?_ | refine aB3 ?_ _)); refine blk_far ?_ NB186_229.out _; (with_reducible repeat (first | refine aB1 ?_ _ | refine aB2 ?_ | refine aB3 ?_ _)); refine blk_far ?_ NB186_229.out _; (with_reducible repeat (first | refine aB1 ?_ _ | refine aB2 ?_ | refine aB3 ?_ _)); refine blk_far ?_ NB186_229.out _; (with_reducible repeat (first | refine aB1 ?_ _ | refine aB2 ?_ | refine aB3 ?_ _)); refine blk_far ?_ NB186_229.out _; (with_reducible repeat (first | refine aB1 ?_ _ | refine aB2 ?_ | refine aB3 ?_ _)); exact BK186.out) hb); have n7_ := aM (blk_below (g := gb187) (o := .cells #[.slice A1_0 l1_0.length c1_0, .int .i64 a1_1, .int .i64 a1_2, .string a1_3] 37 (0, 0)) (by (with_reducible repeat (first | refine aB1 ?_ _ | refine aB2 ?_ | refine aB3 ?_ _)); refine blk_far ?_ NB187_229.out _; (with_reducible repeat (first | refine aB1 ?_ _ | refine aB2 ?_ | refine aB3 ?_ _)); refine blk_far ?_ NB187_229.out _; (with_reducible repeat (first | refine aB1 ?_ _ | refine aB2 ?_ | refine aB3 ?_ _)); refine blk_far ?_ NB187_229.out _; (with_reducible repeat (first | refine aB1 ?_ _ | refine aB2 ?_ | refine aB3 ?_ _)); refine blk_far ?_ NB187_229.out _; (with_reducible repeat (first | refine aB1 ?_ _ | refine aB2 ?_ | refine aB3 ?_ _)); exact BK187.out) hb); have n8_ := aM (blk_below (g := gb208) (o := .cells #[.slice Ao51 t202.length co51, .int .i64 t205, .int .i64 t206, .string t207] 41 (0, 0)) (by (with_reducible repeat (first | refine aB1 ?_ _ | refine aB2 ?_ | refine aB3 ?_ _)); refine blk_far ?_ NB208_229.out _; (with_reducible repeat (first | refine aB1 ?_ _ | refine aB2 ?_ | refine aB3 ?_ _)); refine blk_far ?_ NB208_229.out _; (with_reducible repeat (first | refine aB1 ?_ _ | refine aB2 ?_ | refine aB3 ?_ _)); refine blk_far ?_ NB208_229.out _; (with_reducible repeat (first | refine aB1 ?_ _ | refine aB2 ?_ | refine aB3 ?_ _)); refine blk_far ?_ NB208_229.out _; (with_reducible repeat (first | refine aB1 ?_ _ | refine aB2 ?_ | refine aB3 ?_ _)); exact BK208.out) hb); have n9_ := aM (blk_below (g := gb215) (o := .cells #[.slice Ao60 t209.length co60, .int .i64 t212, .int .i64 t213, .string t214] 41 (0, 0)) (by (with_reducible repeat (first | refine aB1 ?_ _ | refine aB2 ?_ | refine aB3 ?_ _)); refine blk_far ?_ NB215_229.out _; (with_reducible repeat (first | refine aB1 ?_ _ | refine aB2 ?_ | refine aB3 ?_ _)); refine blk_far ?_ NB215_229.out _; (with_reducible repeat (first | refine aB1 ?_ _ | refine aB2 ?_ | refine aB3 ?_ _)); refine blk_far ?_ NB215_229.out _; (with_reducible repeat (first | refine aB1 ?_ _ | refine aB2 ?_ | refine aB3 ?_ _)); refine blk_far ?_ NB215_229.out _; (with_reducible repeat (first | refine aB1 ?_ _ | refine aB2 ?_ | refine aB3 ?_ _)); exact BK215.out) hb); have n10_ := aM (blk_below (g := gb222) (o := .cells #[.slice Ao69 t216.length co69, .int .i64 t219, .int .i64 t220, .string t221] 41 (0, 0)) (by (with_reducible repeat (first | refine aB1 ?_ _ | refine aB2 ?_ | refine aB3 ?_ _)); refine blk_far ?_ NB222_229.out _; (with_reducible repeat (first | refine aB1 ?_ _ | refine aB2 ?_ | refine aB3 ?_ _)); refine blk_far ?_ NB222_229.out _; (with_reducible repeat (first | refine aB1 ?_ _ | refine aB2 ?_ | refine aB3 ?_ _)); refine blk_far ?_ NB222_229.out _; (with_reducible repeat (first | refine aB1 ?_ _ | refine aB2 ?_ | refine aB3 ?_ _)); refine blk_far ?_ NB222_229.out _; (with_reducible repeat (first | refine aB1 ?_ _ | refine aB2 ?_ | refine aB3 ?_ _)); exact BK222.out) hb); have n11_ := aM (blk_below (g := gb229) (o := .cells #[.slice Ao78 t223.length co78, .int .i64 t226, .int .i64 t227, .string t228] 41 (0, 0)) (by (with_reducible repeat (first | refine aB1 ?_ _ | refine aB2 ?_ | refine aB3 ?_ _)); refine blk_put (cs := #[.slice Ao78 t223.length co78, .int .i64 t226, .int .i64 t227, .string (⟨#[]⟩ : ByteArray)]) ?_ 3 _ rfl; (with_reducible repeat (first | refine aB1 ?_ _ | refine aB2 ?_ | refine aB3 ?_ _)); refine blk_put (cs := #[.slice Ao78 t223.length co78, .int .i64 t226, .int .i64 0, .string (⟨#[]⟩ : ByteArray)]) ?_ 2 _ rfl; (with_reducible repeat (first | refine aB1 ?_ _ | refine aB2 ?_ | refine aB3 ?_ _)); refine blk_put (cs := #[.slice Ao78 t223.length co78, .int .i64 0, .int .i64 0, .string (⟨#[]⟩ : ByteArray)]) ?_ 1 _ rfl; (with_reducible repeat (first | refine aB1 ?_ _ | refine aB2 ?_ | refine aB3 ?_ _)); refine blk_put (cs := #[.slice none 0 0, .int .i64 0, .int .i64 0, .string (⟨#[]⟩ : ByteArray)]) ?_ 0 _ rfl; (with_reducible repeat (first | refine aB1 ?_ _ | refine aB2 ?_ | refine aB3 ?_ _)); exact BK229.out) hb); have n12_ := aM (below_step (by repeat (first | (with_reducible first | exact HB.out | apply aW1 | apply aW2 | apply aW3 | refine below_set ?_ GE186.out | refine below_set ?_ GE187.out | refine below_set ?_ GE208.out | refine below_set ?_ GE215.out | refine below_set ?_ GE222.out | refine below_set ?_ GE229.out) | exact HB.out)) hb); clear HO192 HO198 HO204 HO211 HO218 HO225 BK186 BK187 BK208 BK215 BK222 BK229 HB; have HO192 := n0_; have HO198 := n1_; have HO204 := n2_; have HO211 := n3_; have HO218 := n4_; have HO225 := n5_; have BK186 := n6_; have BK187 := n7_; have BK208 := n8_; have BK215 := n9_; have BK222 := n10_; have BK229 := n11_; have HB := n12_; clear n0_ n1_ n2_ n3_ n4_ n5_ n6_ n7_ n8_ n9_ n10_ n11_ n12_; (try clear hb); (try clear hb2); (try clear hk); (try clear hi)))
      have n0_ := aM (Kd.R_drew HO192.out)
      have n1_ := aM (Kd.R_drew HO198.out)
      have n2_ := aM (Kd.R_drew HO204.out)
      have n3_ := aM (Kd.R_drew HO211.out)
      have n4_ := aM (Kd.R_drew HO218.out)
      have n5_ := aM (Kd.R_drew HO225.out)
      have n6_ := aM (blk_drew BK186.out)
      have n7_ := aM (blk_drew BK187.out)
      have n8_ := aM (blk_drew BK208.out)
      have n9_ := aM (blk_drew BK215.out)
      have n10_ := aM (blk_drew BK222.out)
      have n11_ := aM (blk_drew BK229.out)
      have n12_ := aM (below_drew1 HB.out)
      clear HO192 HO198 HO204 HO211 HO218 HO225 BK186 BK187 BK208 BK215 BK222 BK229 HB; have HO192 := n0_; have HO198 := n1_; have HO204 := n2_; have HO211 := n3_; have HO218 := n4_; have HO225 := n5_; have BK186 := n6_; have BK187 := n7_; have BK208 := n8_; have BK215 := n9_; have BK222 := n10_; have BK229 := n11_; have HB := n12_; clear n0_ n1_ n2_ n3_ n4_ n5_ n6_ n7_ n8_ n9_ n10_ n11_ n12_
      refine start_ (n := 5) (S := fun w' => w'.cell? ⟨gb215, 0, none⟩ = some (.slice Ao60 t209.length co60) ∧ w'.cell? ⟨gb215, 1, none⟩ = some (.int .i64 t212) ∧ w'.cell? ⟨gb215, 2, none⟩ = some (.int .i64 t213) ∧ w'.cell? ⟨gb215, 3, none⟩ = some (.string t214) ∧ w'.cell? ⟨gb186, 0, none⟩ = some (.slice A0_0 l0_0.length c0_0) ∧ w'.cell? ⟨gb186, 1, none⟩ = some (.int .i64 a0_1) ∧ w'.cell? ⟨gb186, 2, none⟩ = some (.int .i64 a0_2) ∧ w'.cell? ⟨gb186, 3, none⟩ = some (.string a0_3)) (ds := []) #[false, false, false, false, false] (by kernel_rfl) rfl rfl ⟨(blk_cell BK215.out 0).trans rfl, (blk_cell BK215.out 1).trans rfl, (blk_cell BK215.out 2).trans rfl, (blk_cell BK215.out 3).trans rfl, (blk_cell BK186.out 0).trans rfl, (blk_cell BK186.out 1).trans rfl, (blk_cell BK186.out 2).trans rfl, (blk_cell BK186.out 3).trans rfl⟩ (fun hHeld => ?_)
      generalize w86.drew = w87 at HO192 HO198 HO204 HO211 HO218 HO225 BK186 BK187 BK208 BK215 BK222 BK229 HB hHeld ⊢
      refine take_ (i := 0) (N := some 40) (v := ?_) (a' := ?_) #[true, false, false, false, false] rfl rfl (by kernel_rfl) (fun _ _ _ h => h) (Or.inl ⟨by rfl, ?_⟩) hHeld ?_ ?_
      rotate_left
      ·rintro w' ⟨s0, s1, s2, s3, s4, s5, s6, s7⟩
       go_simp
       with_reducible rfl
      rotate_left
      ·simp only [Act.put, List.setIfInBounds_toArray, List.set_cons_zero, List.set_cons_succ, i64_w, i32_w]
       rfl
      refine take_ (i := 1) (N := some 41) (v := ?_) (a' := ?_) #[true, true, false, false, false] rfl rfl (by kernel_rfl) (fun _ _ _ h => h) (Or.inl ⟨by rfl, ?_⟩) hHeld ?_ ?_
      rotate_left
      ·rintro w' ⟨s0, s1, s2, s3, s4, s5, s6, s7⟩
       go_simp
       with_reducible rfl
      rotate_left
      ·simp only [Act.put, List.setIfInBounds_toArray, List.set_cons_zero, List.set_cons_succ, i64_w, i32_w]
       rfl
      refine one_ (i := 2) (N := some 42) #[true, true, true, false, false] rfl rfl (by kernel_rfl) (by decide) (fun K hK => ?_)
      refine goes_ Try.func34 (by kernel_rfl) rfl #[.agg #[.slice A0_0 l0_0.length c0_0, .int .i64 a0_1, .int .i64 a0_2, .string a0_3]] (by rfl) rfl rfl (by (try simp only [List.map_toArray, List.map_cons, List.map_nil]); first | done | rfl | (simp only [List.length_drop, List.length_take]; rfl)) ?_
      with_reducible refine (laws_toAlarm.calls k _ _ l0_0 a0_1 a0_2 a0_3 t231 t234 t235 t236 _ ?side1 ?side2 A27.out).mono ?_
      (case side1 => repeat (first | exact (Kd.C_below HR0_0.out HB.out) | (with_reducible refine Kd.C_alloc ?_ _) | (with_reducible refine Kd.C_drewN ?_ _) | (with_reducible refine Kd.C_drew ?_)))
      (case side2 => exact HC0_0.out)
      rintro e w88 ⟨v232, rfl, ho0, hb⟩
      refine ⟨_, rfl, ?_⟩
      have n0_ := aM (Kd.R_elder' (aR HO192) (Kd.R_base ho0) hb)
      have n1_ := aM (Kd.R_elder' (aR HO198) (Kd.R_base ho0) hb)
      have n2_ := aM (Kd.R_elder' (aR HO204) (Kd.R_base ho0) hb)
      have n3_ := aM (Kd.R_elder' (aR HO211) (Kd.R_base ho0) hb)
      have n4_ := aM (Kd.R_elder' (aR HO218) (Kd.R_base ho0) hb)
      have n5_ := aM (Kd.R_elder' (aR HO225) (Kd.R_base ho0) hb)
      have n6_ := aM (Kd.R_lower (Kd.R_new' (Kd.R_new' (Kd.R_new' (Kd.R_new' (Kd.R_new' (Kd.R_new' ho0 (Kd.R_lt (aR HO192))) (Kd.R_lt (aR HO198))) (Kd.R_lt (aR HO204))) (Kd.R_lt (aR HO211))) (Kd.R_lt (aR HO218))) (Kd.R_lt (aR HO225))) (below_size (by repeat (first | (with_reducible first | exact HB.out | apply aW1 | apply aW2 | apply aW3 | refine below_set ?_ GE186.out | refine below_set ?_ GE187.out | refine below_set ?_ GE208.out | refine below_set ?_ GE215.out | refine below_set ?_ GE222.out | refine below_set ?_ GE229.out) | exact HB.out))))
      have n7_ := bb BK186 hb; have n8_ := bb BK187 hb; have n9_ := bb BK208 hb; have n10_ := bb BK215 hb; have n11_ := bb BK222 hb; have n12_ := bb BK229 hb
      have n13_ := aM (below_step (by repeat (first | (with_reducible first | exact HB.out | apply aW1 | apply aW2 | apply aW3 | refine below_set ?_ GE186.out | refine below_set ?_ GE187.out | refine below_set ?_ GE208.out | refine below_set ?_ GE215.out | refine below_set ?_ GE222.out | refine below_set ?_ GE229.out) | exact HB.out)) hb)
      clear HO192 HO198 HO204 HO211 HO218 HO225 BK186 BK187 BK208 BK215 BK222 BK229 HB; have HO192 := n0_; have HO198 := n1_; have HO204 := n2_; have HO211 := n3_; have HO218 := n4_; have HO225 := n5_; have HO233 := n6_; have BK186 := n7_; have BK187 := n8_; have BK208 := n9_; have BK215 := n10_; have BK222 := n11_; have BK229 := n12_; have HB := n13_; clear n0_ n1_ n2_ n3_ n4_ n5_ n6_ n7_ n8_ n9_ n10_ n11_ n12_ n13_
      (try clear hb)
      (try clear hb2)
      (try clear hk)
      (try clear hi)
      (try clear ho0)
      obtain ⟨Ao89, co89, eo89⟩ := Kd.R_slice HO233.out
      (first | subst eo89 | (injection eo89 with f1_ f2_ f3_; have f4_ := f1_.symm; have f5_ := f3_.symm; clear f1_ f2_ f3_; subst f4_; subst f5_))
      refine hK.out _ _ ⟨(blk_cell BK215.out 0).trans rfl, (blk_cell BK215.out 1).trans rfl, (blk_cell BK215.out 2).trans rfl, (blk_cell BK215.out 3).trans rfl, (blk_cell BK186.out 0).trans rfl, (blk_cell BK186.out 1).trans rfl, (blk_cell BK186.out 2).trans rfl, (blk_cell BK186.out 3).trans rfl⟩ (fun hHeld => ?_)
      clear hK K
      refine norm_ (a' := ?_) ?_ ?_
      rotate_left
      ·show Act.put _ (some 42) _ = _
       simp only [Act.put, List.setIfInBounds_toArray, List.set_cons_zero, List.set_cons_succ, i64_w, i32_w]
       rfl
      refine one_ (i := 3) (N := some 43) #[true, true, true, true, false] rfl rfl (by kernel_rfl) (by decide) (fun K hK => ?_)
      refine goes_ Try.func36 (by kernel_rfl) rfl #[.agg #[.slice Ao60 t209.length co60, .int .i64 t212, .int .i64 t213, .string t214], .agg #[.slice Ao89 t231.length co89, .int .i64 t234, .int .i64 t235, .string t236]] (by rfl) rfl rfl (by (try simp only [List.map_toArray, List.map_cons, List.map_nil]); first | done | rfl | (simp only [List.length_drop, List.length_take]; rfl)) ?_
      with_reducible refine (laws_eqAlarm.calls k _ _ t209 t212 t213 t214 _ _ t231 t234 t235 t236 true _ ?side1 ?side2 ?side3 ?side4 A28.out).mono ?_
      (case side1 => repeat (first | exact (Kd.R_reads' HO211.out).2.2 | (with_reducible refine Kd.C_alloc ?_ _) | (with_reducible refine Kd.C_drewN ?_ _) | (with_reducible refine Kd.C_drew ?_)))
      (case side2 => exact (Kd.R_reads' HO211.out).2.1)
      (case side3 => repeat (first | exact (Kd.R_reads' HO233.out).2.2 | (with_reducible refine Kd.C_alloc ?_ _) | (with_reducible refine Kd.C_drewN ?_ _) | (with_reducible refine Kd.C_drew ?_)))
      (case side4 => exact (Kd.R_reads' HO233.out).2.1)
      rintro e w90 ⟨rfl, hb⟩
      refine ⟨_, rfl, ?_⟩
      have n0_ := rb HO192 hb; have n1_ := rb HO198 hb; have n2_ := rb HO204 hb; have n3_ := rb HO211 hb; have n4_ := rb HO218 hb; have n5_ := rb HO225 hb; have n6_ := rb HO233 hb; have n7_ := bb BK186 hb; have n8_ := bb BK187 hb; have n9_ := bb BK208 hb; have n10_ := bb BK215 hb; have n11_ := bb BK222 hb; have n12_ := bb BK229 hb
      have n13_ := aM (below_step (by repeat (first | (with_reducible first | exact HB.out | apply aW1 | apply aW2 | apply aW3 | refine below_set ?_ GE186.out | refine below_set ?_ GE187.out | refine below_set ?_ GE208.out | refine below_set ?_ GE215.out | refine below_set ?_ GE222.out | refine below_set ?_ GE229.out) | exact HB.out)) hb)
      clear HO192 HO198 HO204 HO211 HO218 HO225 HO233 BK186 BK187 BK208 BK215 BK222 BK229 HB; have HO192 := n0_; have HO198 := n1_; have HO204 := n2_; have HO211 := n3_; have HO218 := n4_; have HO225 := n5_; have HO233 := n6_; have BK186 := n7_; have BK187 := n8_; have BK208 := n9_; have BK215 := n10_; have BK222 := n11_; have BK229 := n12_; have HB := n13_; clear n0_ n1_ n2_ n3_ n4_ n5_ n6_ n7_ n8_ n9_ n10_ n11_ n12_ n13_
      (try clear hb)
      (try clear hb2)
      (try clear hk)
      (try clear hi)
      refine hK.out _ _ ⟨(blk_cell BK215.out 0).trans rfl, (blk_cell BK215.out 1).trans rfl, (blk_cell BK215.out 2).trans rfl, (blk_cell BK215.out 3).trans rfl, (blk_cell BK186.out 0).trans rfl, (blk_cell BK186.out 1).trans rfl, (blk_cell BK186.out 2).trans rfl, (blk_cell BK186.out 3).trans rfl⟩ (fun hHeld => ?_)
      clear hK K
      refine norm_ (a' := ?_) ?_ ?_
      rotate_left
      ·show Act.put _ (some 43) _ = _
       simp only [Act.put, List.setIfInBounds_toArray, List.set_cons_zero, List.set_cons_succ, i64_w, i32_w]
       rfl
      refine pure_ (i := 4) (N := some 44) (v := ?_) (a' := ?_) #[true, true, true, true, true] rfl rfl (by kernel_rfl) (fun _ _ _ h => h) (Or.inl ⟨by rfl, ?_⟩) ?_ ?_
      rotate_left
      ·intro w'
       go_simp
       with_reducible rfl
      rotate_left
      ·simp only [Act.put, List.setIfInBounds_toArray, List.set_cons_zero, List.set_cons_succ, i64_w, i32_w]
       rfl
      refine done_ (by kernel_rfl) ?_
      try go_wp2
      have n0_ := aM (Kd.R_drew HO192.out)
      have n1_ := aM (Kd.R_drew HO198.out)
      have n2_ := aM (Kd.R_drew HO204.out)
      have n3_ := aM (Kd.R_drew HO211.out)
      have n4_ := aM (Kd.R_drew HO218.out)
      have n5_ := aM (Kd.R_drew HO225.out)
      have n6_ := aM (Kd.R_drew HO233.out)
      have n7_ := aM (blk_drew BK186.out)
      have n8_ := aM (blk_drew BK187.out)
      have n9_ := aM (blk_drew BK208.out)
      have n10_ := aM (blk_drew BK215.out)
      have n11_ := aM (blk_drew BK222.out)
      have n12_ := aM (blk_drew BK229.out)
      have n13_ := aM (below_drew1 HB.out)
      clear HO192 HO198 HO204 HO211 HO218 HO225 HO233 BK186 BK187 BK208 BK215 BK222 BK229 HB; have HO192 := n0_; have HO198 := n1_; have HO204 := n2_; have HO211 := n3_; have HO218 := n4_; have HO225 := n5_; have HO233 := n6_; have BK186 := n7_; have BK187 := n8_; have BK208 := n9_; have BK215 := n10_; have BK222 := n11_; have BK229 := n12_; have HB := n13_; clear n0_ n1_ n2_ n3_ n4_ n5_ n6_ n7_ n8_ n9_ n10_ n11_ n12_ n13_
      refine start_ (n := 5) (S := fun w' => w'.cell? ⟨gb222, 0, none⟩ = some (.slice Ao69 t216.length co69) ∧ w'.cell? ⟨gb222, 1, none⟩ = some (.int .i64 t219) ∧ w'.cell? ⟨gb222, 2, none⟩ = some (.int .i64 t220) ∧ w'.cell? ⟨gb222, 3, none⟩ = some (.string t221) ∧ w'.cell? ⟨gb187, 0, none⟩ = some (.slice A1_0 l1_0.length c1_0) ∧ w'.cell? ⟨gb187, 1, none⟩ = some (.int .i64 a1_1) ∧ w'.cell? ⟨gb187, 2, none⟩ = some (.int .i64 a1_2) ∧ w'.cell? ⟨gb187, 3, none⟩ = some (.string a1_3)) (ds := []) #[false, false, false, false, false] (by kernel_rfl) rfl rfl ⟨(blk_cell BK222.out 0).trans rfl, (blk_cell BK222.out 1).trans rfl, (blk_cell BK222.out 2).trans rfl, (blk_cell BK222.out 3).trans rfl, (blk_cell BK187.out 0).trans rfl, (blk_cell BK187.out 1).trans rfl, (blk_cell BK187.out 2).trans rfl, (blk_cell BK187.out 3).trans rfl⟩ (fun hHeld => ?_)
      generalize w90.drew = w91 at HO192 HO198 HO204 HO211 HO218 HO225 HO233 BK186 BK187 BK208 BK215 BK222 BK229 HB hHeld ⊢
      refine take_ (i := 0) (N := some 45) (v := ?_) (a' := ?_) #[true, false, false, false, false] rfl rfl (by kernel_rfl) (fun _ _ _ h => h) (Or.inl ⟨by rfl, ?_⟩) hHeld ?_ ?_
      rotate_left
      ·rintro w' ⟨s0, s1, s2, s3, s4, s5, s6, s7⟩
       go_simp
       with_reducible rfl
      rotate_left
      ·simp only [Act.put, List.setIfInBounds_toArray, List.set_cons_zero, List.set_cons_succ, i64_w, i32_w]
       rfl
      refine take_ (i := 1) (N := some 46) (v := ?_) (a' := ?_) #[true, true, false, false, false] rfl rfl (by kernel_rfl) (fun _ _ _ h => h) (Or.inl ⟨by rfl, ?_⟩) hHeld ?_ ?_
      rotate_left
      ·rintro w' ⟨s0, s1, s2, s3, s4, s5, s6, s7⟩
       go_simp
       with_reducible rfl
      rotate_left
      ·simp only [Act.put, List.setIfInBounds_toArray, List.set_cons_zero, List.set_cons_succ, i64_w, i32_w]
       rfl
      refine one_ (i := 2) (N := some 47) #[true, true, true, false, false] rfl rfl (by kernel_rfl) (by decide) (fun K hK => ?_)
      refine goes_ Try.func34 (by kernel_rfl) rfl #[.agg #[.slice A1_0 l1_0.length c1_0, .int .i64 a1_1, .int .i64 a1_2, .string a1_3]] (by rfl) rfl rfl (by (try simp only [List.map_toArray, List.map_cons, List.map_nil]); first | done | rfl | (simp only [List.length_drop, List.length_take]; rfl)) ?_
      with_reducible refine (laws_toAlarm.calls k _ _ l1_0 a1_1 a1_2 a1_3 t238 t241 t242 t243 _ ?side1 ?side2 A30.out).mono ?_
      (case side1 => repeat (first | exact (Kd.C_below HR1_0.out HB.out) | (with_reducible refine Kd.C_alloc ?_ _) | (with_reducible refine Kd.C_drewN ?_ _) | (with_reducible refine Kd.C_drew ?_)))
      (case side2 => exact HC1_0.out)
      rintro e w92 ⟨v239, rfl, ho0, hb⟩
      refine ⟨_, rfl, ?_⟩
      have n0_ := aM (Kd.R_elder' (aR HO192) (Kd.R_base ho0) hb)
      have n1_ := aM (Kd.R_elder' (aR HO198) (Kd.R_base ho0) hb)
      have n2_ := aM (Kd.R_elder' (aR HO204) (Kd.R_base ho0) hb)
      have n3_ := aM (Kd.R_elder' (aR HO211) (Kd.R_base ho0) hb)
      have n4_ := aM (Kd.R_elder' (aR HO218) (Kd.R_base ho0) hb)
      have n5_ := aM (Kd.R_elder' (aR HO225) (Kd.R_base ho0) hb)
      have n6_ := aM (Kd.R_elder' (aR HO233) (Kd.R_base ho0) hb)
      have n7_ := aM (Kd.R_lower (Kd.R_new' (Kd.R_new' (Kd.R_new' (Kd.R_new' (Kd.R_new' (Kd.R_new' (Kd.R_new' ho0 (Kd.R_lt (aR HO192))) (Kd.R_lt (aR HO198))) (Kd.R_lt (aR HO204))) (Kd.R_lt (aR HO211))) (Kd.R_lt (aR HO218))) (Kd.R_lt (aR HO225))) (Kd.R_lt (aR HO233))) (below_size (by repeat (first | (with_reducible first | exact HB.out | apply aW1 | apply aW2 | apply aW3 | refine below_set ?_ GE186.out | refine below_set ?_ GE187.out | refine below_set ?_ GE208.out | refine below_set ?_ GE215.out | refine below_set ?_ GE222.out | refine below_set ?_ GE229.out) | exact HB.out))))
      have n8_ := bb BK186 hb; have n9_ := bb BK187 hb; have n10_ := bb BK208 hb; have n11_ := bb BK215 hb; have n12_ := bb BK222 hb; have n13_ := bb BK229 hb
      have n14_ := aM (below_step (by repeat (first | (with_reducible first | exact HB.out | apply aW1 | apply aW2 | apply aW3 | refine below_set ?_ GE186.out | refine below_set ?_ GE187.out | refine below_set ?_ GE208.out | refine below_set ?_ GE215.out | refine below_set ?_ GE222.out | refine below_set ?_ GE229.out) | exact HB.out)) hb)
      clear HO192 HO198 HO204 HO211 HO218 HO225 HO233 BK186 BK187 BK208 BK215 BK222 BK229 HB; have HO192 := n0_; have HO198 := n1_; have HO204 := n2_; have HO211 := n3_; have HO218 := n4_; have HO225 := n5_; have HO233 := n6_; have HO240 := n7_; have BK186 := n8_; have BK187 := n9_; have BK208 := n10_; have BK215 := n11_; have BK222 := n12_; have BK229 := n13_; have HB := n14_; clear n0_ n1_ n2_ n3_ n4_ n5_ n6_ n7_ n8_ n9_ n10_ n11_ n12_ n13_ n14_
      (try clear hb)
      (try clear hb2)
      (try clear hk)
      (try clear hi)
      (try clear ho0)
      obtain ⟨Ao93, co93, eo93⟩ := Kd.R_slice HO240.out
      (first | subst eo93 | (injection eo93 with f1_ f2_ f3_; have f4_ := f1_.symm; have f5_ := f3_.symm; clear f1_ f2_ f3_; subst f4_; subst f5_))
      refine hK.out _ _ ⟨(blk_cell BK222.out 0).trans rfl, (blk_cell BK222.out 1).trans rfl, (blk_cell BK222.out 2).trans rfl, (blk_cell BK222.out 3).trans rfl, (blk_cell BK187.out 0).trans rfl, (blk_cell BK187.out 1).trans rfl, (blk_cell BK187.out 2).trans rfl, (blk_cell BK187.out 3).trans rfl⟩ (fun hHeld => ?_)
      clear hK K
      refine norm_ (a' := ?_) ?_ ?_
      rotate_left
      ·show Act.put _ (some 47) _ = _
       simp only [Act.put, List.setIfInBounds_toArray, List.set_cons_zero, List.set_cons_succ, i64_w, i32_w]
       rfl
      refine one_ (i := 3) (N := some 48) #[true, true, true, true, false] rfl rfl (by kernel_rfl) (by decide) (fun K hK => ?_)
      refine goes_ Try.func36 (by kernel_rfl) rfl #[.agg #[.slice Ao69 t216.length co69, .int .i64 t219, .int .i64 t220, .string t221], .agg #[.slice Ao93 t238.length co93, .int .i64 t241, .int .i64 t242, .string t243]] (by rfl) rfl rfl (by (try simp only [List.map_toArray, List.map_cons, List.map_nil]); first | done | rfl | (simp only [List.length_drop, List.length_take]; rfl)) ?_
      with_reducible refine (laws_eqAlarm.calls k _ _ t216 t219 t220 t221 _ _ t238 t241 t242 t243 true _ ?side1 ?side2 ?side3 ?side4 A31.out).mono ?_
      (case side1 => repeat (first | exact (Kd.R_reads' HO218.out).2.2 | (with_reducible refine Kd.C_alloc ?_ _) | (with_reducible refine Kd.C_drewN ?_ _) | (with_reducible refine Kd.C_drew ?_)))
      (case side2 => exact (Kd.R_reads' HO218.out).2.1)
      (case side3 => repeat (first | exact (Kd.R_reads' HO240.out).2.2 | (with_reducible refine Kd.C_alloc ?_ _) | (with_reducible refine Kd.C_drewN ?_ _) | (with_reducible refine Kd.C_drew ?_)))
      (case side4 => exact (Kd.R_reads' HO240.out).2.1)
      rintro e w94 ⟨rfl, hb⟩
      refine ⟨_, rfl, ?_⟩
      have n0_ := rb HO192 hb; have n1_ := rb HO198 hb; have n2_ := rb HO204 hb; have n3_ := rb HO211 hb; have n4_ := rb HO218 hb; have n5_ := rb HO225 hb; have n6_ := rb HO233 hb; have n7_ := rb HO240 hb; have n8_ := bb BK186 hb; have n9_ := bb BK187 hb; have n10_ := bb BK208 hb; have n11_ := bb BK215 hb; have n12_ := bb BK222 hb; have n13_ := bb BK229 hb
      have n14_ := aM (below_step (by repeat (first | (with_reducible first | exact HB.out | apply aW1 | apply aW2 | apply aW3 | refine below_set ?_ GE186.out | refine below_set ?_ GE187.out | refine below_set ?_ GE208.out | refine below_set ?_ GE215.out | refine below_set ?_ GE222.out | refine below_set ?_ GE229.out) | exact HB.out)) hb)
      clear HO192 HO198 HO204 HO211 HO218 HO225 HO233 HO240 BK186 BK187 BK208 BK215 BK222 BK229 HB; have HO192 := n0_; have HO198 := n1_; have HO204 := n2_; have HO211 := n3_; have HO218 := n4_; have HO225 := n5_; have HO233 := n6_; have HO240 := n7_; have BK186 := n8_; have BK187 := n9_; have BK208 := n10_; have BK215 := n11_; have BK222 := n12_; have BK229 := n13_; have HB := n14_; clear n0_ n1_ n2_ n3_ n4_ n5_ n6_ n7_ n8_ n9_ n10_ n11_ n12_ n13_ n14_
      (try clear hb)
      (try clear hb2)
      (try clear hk)
      (try clear hi)
      refine hK.out _ _ ⟨(blk_cell BK222.out 0).trans rfl, (blk_cell BK222.out 1).trans rfl, (blk_cell BK222.out 2).trans rfl, (blk_cell BK222.out 3).trans rfl, (blk_cell BK187.out 0).trans rfl, (blk_cell BK187.out 1).trans rfl, (blk_cell BK187.out 2).trans rfl, (blk_cell BK187.out 3).trans rfl⟩ (fun hHeld => ?_)
      clear hK K
      refine norm_ (a' := ?_) ?_ ?_
      rotate_left
      ·show Act.put _ (some 48) _ = _
       simp only [Act.put, List.setIfInBounds_toArray, List.set_cons_zero, List.set_cons_succ, i64_w, i32_w]
       rfl
      refine pure_ (i := 4) (N := some 49) (v := ?_) (a' := ?_) #[true, true, true, true, true] rfl rfl (by kernel_rfl) (fun _ _ _ h => h) (Or.inl ⟨by rfl, ?_⟩) ?_ ?_
      rotate_left
      ·intro w'
       go_simp
       with_reducible rfl
      rotate_left
      ·simp only [Act.put, List.setIfInBounds_toArray, List.set_cons_zero, List.set_cons_succ, i64_w, i32_w]
       rfl
      refine done_ (by kernel_rfl) ?_
      have hcz95_0 := cz4_0 BK215; have hcz95_1 := cz4_1 BK215; have hcz95_2 := cz4_2 BK215; have hcz95_3 := cz4_3 BK215; have hfz95_0 := blk_frozen BK215.out 0; have hfz95_1 := blk_frozen BK215.out 1; have hfz95_2 := blk_frozen BK215.out 2; have hfz95_3 := blk_frozen BK215.out 3
      go_upto_region 21 with (first | ((with_reducible refine gate_callee (f := 37) rfl ?_); refine goesL_ (some 52) rfl rfl Try.func37 (by kernel_rfl) rfl #[.agg #[.slice Ao60 t209.length co60, .int .i64 t212, .int .i64 t213, .string t214], .int .i64 1] rfl (by (try simp only [List.map_toArray, List.map_cons, List.map_nil]); first | done | rfl | (simp only [List.length_drop, List.length_take]; rfl)) ?_; (with_reducible refine (laws_markAlarm.calls k (fun k_ => some k_ = (.slice Ao60 t209.length co60 : Value).ownBlock) (.slice Ao60 t209.length co60) t209 t212 t213 t214 1 t245 t246 w _ ?side1 ?side2 A33.out).mono ?_); (case side1 => repeat (first | (with_reducible first | exact HB.out | apply aW1 | apply aW2 | apply aW3 | refine below_set ?_ GE186.out | refine below_set ?_ GE187.out | refine below_set ?_ GE208.out | refine below_set ?_ GE215.out | refine below_set ?_ GE222.out | refine below_set ?_ GE229.out) | exact HB.out)); (case side2 => exact Kd.R_tight rfl HO211.out); rintro e w96 ⟨rfl, hy0, hb, hkp⟩; refine ⟨_, rfl, ?_⟩; have n0_ := aM (blk_kept (aB BK186) hkp (fun hs_ => (fun e_ => (Kd.R_ne HO211.out BK186.out (by decide)) e_) hs_)); have n1_ := aM (blk_kept (aB BK187) hkp (fun hs_ => (fun e_ => (Kd.R_ne HO211.out BK187.out (by decide)) e_) hs_)); have n2_ := aM (Kd.R_mono (ok' := fun k_ => some k_ ≠ (v197 : Value).ownBlock ∧ some k_ ≠ (.slice Ao51 t202.length co51 : Value).ownBlock ∧ some k_ ≠ (.slice Ao60 t209.length co60 : Value).ownBlock ∧ some k_ ≠ (.slice Ao69 t216.length co69 : Value).ownBlock ∧ some k_ ≠ (.slice Ao78 t223.length co78 : Value).ownBlock ∧ some k_ ≠ (.slice Ao89 t231.length co89 : Value).ownBlock ∧ some k_ ≠ (.slice Ao93 t238.length co93 : Value).ownBlock) (Kd.R_keptB (HO192.out) hkp (fun k_ hk_ hs_ => (hk_.1.1.1.1.2) hs_)) (fun k_ hk_ => ⟨hk_.1.1.1.1.1.1.1, hk_.1.1.1.1.1.1.2, hk_.1.1.1.1.1.2, hk_.1.1.1.1.2, hk_.1.1.1.2, hk_.1.1.2, hk_.1.2⟩)); have n3_ := aM (Kd.R_mono (ok' := fun k_ => some k_ ≠ (v191 : Value).ownBlock ∧ some k_ ≠ (.slice Ao51 t202.length co51 : Value).ownBlock ∧ some k_ ≠ (.slice Ao60 t209.length co60 : Value).ownBlock ∧ some k_ ≠ (.slice Ao69 t216.length co69 : Value).ownBlock ∧ some k_ ≠ (.slice Ao78 t223.length co78 : Value).ownBlock ∧ some k_ ≠ (.slice Ao89 t231.length co89 : Value).ownBlock ∧ some k_ ≠ (.slice Ao93 t238.length co93 : Value).ownBlock) (Kd.R_keptB (HO198.out) hkp (fun k_ hk_ hs_ => (hk_.1.1.1.1.2) hs_)) (fun k_ hk_ => ⟨hk_.1.1.1.1.1.1.1, hk_.1.1.1.1.1.1.2, hk_.1.1.1.1.1.2, hk_.1.1.1.1.2, hk_.1.1.1.2, hk_.1.1.2, hk_.1.2⟩)); have n4_ := aM (Kd.R_mono (ok' := fun k_ => some k_ ≠ (v191 : Value).ownBlock ∧ some k_ ≠ (v197 : Value).ownBlock ∧ some k_ ≠ (.slice Ao60 t209.length co60 : Value).ownBlock ∧ some k_ ≠ (.slice Ao69 t216.length co69 : Value).ownBlock ∧ some k_ ≠ (.slice Ao78 t223.length co78 : Value).ownBlock ∧ some k_ ≠ (.slice Ao89 t231.length co89 : Value).ownBlock ∧ some k_ ≠ (.slice Ao93 t238.length co93 : Value).ownBlock) (Kd.R_keptB (HO204.out) hkp (fun k_ hk_ hs_ => (hk_.1.1.1.1.2) hs_)) (fun k_ hk_ => ⟨hk_.1.1.1.1.1.1.1, hk_.1.1.1.1.1.1.2, hk_.1.1.1.1.1.2, hk_.1.1.1.1.2, hk_.1.1.1.2, hk_.1.1.2, hk_.1.2⟩)); have n5_ := aM (blk_kept (aB BK208) hkp (fun hs_ => (fun e_ => (Kd.R_ne HO211.out BK208.out (by decide)) e_) hs_)); have n6_ := aM (Kd.R_reok rfl hy0 (fun k_ e_ => HO211.out.1 k_ e_)); have n7_ := aM (blk_kept (aB BK215) hkp (fun hs_ => (fun e_ => (Kd.R_ne HO211.out BK215.out (by decide)) e_) hs_)); have n8_ := aM (Kd.R_mono (ok' := fun k_ => some k_ ≠ (v191 : Value).ownBlock ∧ some k_ ≠ (v197 : Value).ownBlock ∧ some k_ ≠ (.slice Ao51 t202.length co51 : Value).ownBlock ∧ some k_ ≠ (.slice Ao60 t209.length co60 : Value).ownBlock ∧ some k_ ≠ (.slice Ao78 t223.length co78 : Value).ownBlock ∧ some k_ ≠ (.slice Ao89 t231.length co89 : Value).ownBlock ∧ some k_ ≠ (.slice Ao93 t238.length co93 : Value).ownBlock) (Kd.R_keptB (HO218.out) hkp (fun k_ hk_ hs_ => (hk_.1.1.1.2) hs_)) (fun k_ hk_ => ⟨hk_.1.1.1.1.1.1.1.2, hk_.1.1.1.1.1.1.2, hk_.1.1.1.1.1.2, hk_.1.1.1.1.2, hk_.1.1.1.2, hk_.1.1.2, hk_.1.2⟩)); have n9_ := aM (blk_kept (aB BK222) hkp (fun hs_ => (fun e_ => (Kd.R_ne HO211.out BK222.out (by decide)) e_) hs_)); have n10_ := aM (Kd.R_mono (ok' := fun k_ => some k_ ≠ (v191 : Value).ownBlock ∧ some k_ ≠ (v197 : Value).ownBlock ∧ some k_ ≠ (.slice Ao51 t202.length co51 : Value).ownBlock ∧ some k_ ≠ (.slice Ao60 t209.length co60 : Value).ownBlock ∧ some k_ ≠ (.slice Ao69 t216.length co69 : Value).ownBlock ∧ some k_ ≠ (.slice Ao89 t231.length co89 : Value).ownBlock ∧ some k_ ≠ (.slice Ao93 t238.length co93 : Value).ownBlock) (Kd.R_keptB (HO225.out) hkp (fun k_ hk_ hs_ => (hk_.1.1.1.2) hs_)) (fun k_ hk_ => ⟨hk_.1.1.1.1.1.1.1.2, hk_.1.1.1.1.1.1.2, hk_.1.1.1.1.1.2, hk_.1.1.1.1.2, hk_.1.1.1.2, hk_.1.1.2, hk_.1.2⟩)); have n11_ := aM (blk_kept (aB BK229) hkp (fun hs_ => (fun e_ => (Kd.R_ne HO211.out BK229.out (by decide)) e_) hs_)); have n12_ := aM (Kd.R_mono (ok' := fun k_ => some k_ ≠ (v191 : Value).ownBlock ∧ some k_ ≠ (v197 : Value).ownBlock ∧ some k_ ≠ (.slice Ao51 t202.length co51 : Value).ownBlock ∧ some k_ ≠ (.slice Ao60 t209.length co60 : Value).ownBlock ∧ some k_ ≠ (.slice Ao69 t216.length co69 : Value).ownBlock ∧ some k_ ≠ (.slice Ao78 t223.length co78 : Value).ownBlock ∧ some k_ ≠ (.slice Ao93 t238.length co93 : Value).ownBlock) (Kd.R_keptB (HO233.out) hkp (fun k_ hk_ hs_ => (hk_.1.1.1.2) hs_)) (fun k_ hk_ => ⟨hk_.1.1.1.1.1.1.1.2, hk_.1.1.1.1.1.1.2, hk_.1.1.1.1.1.2, hk_.1.1.1.1.2, hk_.1.1.1.2, hk_.1.1.2, hk_.1.2⟩)); have n13_ := aM (Kd.R_mono (ok' := fun k_ => some k_ ≠ (v191 : Value).ownBlock ∧ some k_ ≠ (v197 : Value).ownBlock ∧ some k_ ≠ (.slice Ao51 t202.length co51 : Value).ownBlock ∧ some k_ ≠ (.slice Ao60 t209.length co60 : Value).ownBlock ∧ some k_ ≠ (.slice Ao69 t216.length co69 : Value).ownBlock ∧ some k_ ≠ (.slice Ao78 t223.length co78 : Value).ownBlock ∧ some k_ ≠ (.slice Ao89 t231.length co89 : Value).ownBlock) (Kd.R_keptB (HO240.out) hkp (fun k_ hk_ hs_ => (hk_.1.1.1.2) hs_)) (fun k_ hk_ => ⟨hk_.1.1.1.1.1.1.1.2, hk_.1.1.1.1.1.1.2, hk_.1.1.1.1.1.2, hk_.1.1.1.1.2, hk_.1.1.1.2, hk_.1.1.2, hk_.1.2⟩)); have n14_ := aM (hb); clear BK186 BK187 HO192 HO198 HO204 BK208 HO211 BK215 HO218 BK222 HO225 BK229 HO233 HO240 HB; have BK186 := n0_; have BK187 := n1_; have HO192 := n2_; have HO198 := n3_; have HO204 := n4_; have BK208 := n5_; have HO211 := n6_; have BK215 := n7_; have HO218 := n8_; have BK222 := n9_; have HO225 := n10_; have BK229 := n11_; have HO233 := n12_; have HO240 := n13_; have HB := n14_; clear n0_ n1_ n2_ n3_ n4_ n5_ n6_ n7_ n8_ n9_ n10_ n11_ n12_ n13_ n14_; (try clear hb); (try clear hkp); (try clear hy0); have hcz97_0 := cz4_0 BK222; have hcz97_1 := cz4_1 BK222; have hcz97_2 := cz4_2 BK222; have hcz97_3 := cz4_3 BK222; have hfz97_0 := blk_frozen BK222.out 0; have hfz97_1 := blk_frozen BK222.out 1; have hfz97_2 := blk_frozen BK222.out 2; have hfz97_3 := blk_frozen BK222.out 3) | ((with_reducible refine gate_callee (f := 37) rfl ?_); refine goesL_ (some 55) rfl rfl Try.func37 (by kernel_rfl) rfl #[.agg #[.slice Ao69 t216.length co69, .int .i64 t219, .int .i64 t220, .string t221], .int .i64 t245] rfl (by (try simp only [List.map_toArray, List.map_cons, List.map_nil]); first | done | rfl | (simp only [List.length_drop, List.length_take]; rfl)) ?_; (with_reducible refine (laws_markAlarm.calls k (fun k_ => some k_ = (.slice Ao69 t216.length co69 : Value).ownBlock) (.slice Ao69 t216.length co69) t216 t219 t220 t221 t245 t247 t248 w _ ?side1 ?side2 A34.out).mono ?_); (case side1 => repeat (first | (with_reducible first | exact HB.out | apply aW1 | apply aW2 | apply aW3 | refine below_set ?_ GE186.out | refine below_set ?_ GE187.out | refine below_set ?_ GE208.out | refine below_set ?_ GE215.out | refine below_set ?_ GE222.out | refine below_set ?_ GE229.out) | exact HB.out)); (case side2 => exact Kd.R_tight rfl HO218.out); rintro e w98 ⟨rfl, hy0, hb, hkp⟩; refine ⟨_, rfl, ?_⟩; have n0_ := aM (blk_kept (aB BK186) hkp (fun hs_ => (fun e_ => (Kd.R_ne HO218.out BK186.out (by decide)) e_) hs_)); have n1_ := aM (blk_kept (aB BK187) hkp (fun hs_ => (fun e_ => (Kd.R_ne HO218.out BK187.out (by decide)) e_) hs_)); have n2_ := aM (Kd.R_mono (ok' := fun k_ => some k_ ≠ (v197 : Value).ownBlock ∧ some k_ ≠ (.slice Ao51 t202.length co51 : Value).ownBlock ∧ some k_ ≠ (.slice Ao60 t209.length co60 : Value).ownBlock ∧ some k_ ≠ (.slice Ao69 t216.length co69 : Value).ownBlock ∧ some k_ ≠ (.slice Ao78 t223.length co78 : Value).ownBlock ∧ some k_ ≠ (.slice Ao89 t231.length co89 : Value).ownBlock ∧ some k_ ≠ (.slice Ao93 t238.length co93 : Value).ownBlock) (Kd.R_keptB (HO192.out) hkp (fun k_ hk_ hs_ => (hk_.2.2.2.1) hs_)) (fun k_ hk_ => ⟨hk_.1.1, hk_.1.2.1, hk_.1.2.2.1, hk_.1.2.2.2.1, hk_.1.2.2.2.2.1, hk_.1.2.2.2.2.2.1, hk_.1.2.2.2.2.2.2⟩)); have n3_ := aM (Kd.R_mono (ok' := fun k_ => some k_ ≠ (v191 : Value).ownBlock ∧ some k_ ≠ (.slice Ao51 t202.length co51 : Value).ownBlock ∧ some k_ ≠ (.slice Ao60 t209.length co60 : Value).ownBlock ∧ some k_ ≠ (.slice Ao69 t216.length co69 : Value).ownBlock ∧ some k_ ≠ (.slice Ao78 t223.length co78 : Value).ownBlock ∧ some k_ ≠ (.slice Ao89 t231.length co89 : Value).ownBlock ∧ some k_ ≠ (.slice Ao93 t238.length co93 : Value).ownBlock) (Kd.R_keptB (HO198.out) hkp (fun k_ hk_ hs_ => (hk_.2.2.2.1) hs_)) (fun k_ hk_ => ⟨hk_.1.1, hk_.1.2.1, hk_.1.2.2.1, hk_.1.2.2.2.1, hk_.1.2.2.2.2.1, hk_.1.2.2.2.2.2.1, hk_.1.2.2.2.2.2.2⟩)); have n4_ := aM (Kd.R_mono (ok' := fun k_ => some k_ ≠ (v191 : Value).ownBlock ∧ some k_ ≠ (v197 : Value).ownBlock ∧ some k_ ≠ (.slice Ao60 t209.length co60 : Value).ownBlock ∧ some k_ ≠ (.slice Ao69 t216.length co69 : Value).ownBlock ∧ some k_ ≠ (.slice Ao78 t223.length co78 : Value).ownBlock ∧ some k_ ≠ (.slice Ao89 t231.length co89 : Value).ownBlock ∧ some k_ ≠ (.slice Ao93 t238.length co93 : Value).ownBlock) (Kd.R_keptB (HO204.out) hkp (fun k_ hk_ hs_ => (hk_.2.2.2.1) hs_)) (fun k_ hk_ => ⟨hk_.1.1, hk_.1.2.1, hk_.1.2.2.1, hk_.1.2.2.2.1, hk_.1.2.2.2.2.1, hk_.1.2.2.2.2.2.1, hk_.1.2.2.2.2.2.2⟩)); have n5_ := aM (blk_kept (aB BK208) hkp (fun hs_ => (fun e_ => (Kd.R_ne HO218.out BK208.out (by decide)) e_) hs_)); have n6_ := aM (Kd.R_mono (ok' := fun k_ => some k_ ≠ (v191 : Value).ownBlock ∧ some k_ ≠ (v197 : Value).ownBlock ∧ some k_ ≠ (.slice Ao51 t202.length co51 : Value).ownBlock ∧ some k_ ≠ (.slice Ao69 t216.length co69 : Value).ownBlock ∧ some k_ ≠ (.slice Ao78 t223.length co78 : Value).ownBlock ∧ some k_ ≠ (.slice Ao89 t231.length co89 : Value).ownBlock ∧ some k_ ≠ (.slice Ao93 t238.length co93 : Value).ownBlock) (Kd.R_keptB (HO211.out) hkp (fun k_ hk_ hs_ => (hk_.1.1.1.2) hs_)) (fun k_ hk_ => ⟨hk_.1.1.1.1.1.1.1.2, hk_.1.1.1.1.1.1.2, hk_.1.1.1.1.1.2, hk_.1.1.1.1.2, hk_.1.1.1.2, hk_.1.1.2, hk_.1.2⟩)); have n7_ := aM (blk_kept (aB BK215) hkp (fun hs_ => (fun e_ => (Kd.R_ne HO218.out BK215.out (by decide)) e_) hs_)); have n8_ := aM (Kd.R_reok rfl hy0 (fun k_ e_ => HO218.out.1 k_ e_)); have n9_ := aM (blk_kept (aB BK222) hkp (fun hs_ => (fun e_ => (Kd.R_ne HO218.out BK222.out (by decide)) e_) hs_)); have n10_ := aM (Kd.R_mono (ok' := fun k_ => some k_ ≠ (v191 : Value).ownBlock ∧ some k_ ≠ (v197 : Value).ownBlock ∧ some k_ ≠ (.slice Ao51 t202.length co51 : Value).ownBlock ∧ some k_ ≠ (.slice Ao60 t209.length co60 : Value).ownBlock ∧ some k_ ≠ (.slice Ao69 t216.length co69 : Value).ownBlock ∧ some k_ ≠ (.slice Ao89 t231.length co89 : Value).ownBlock ∧ some k_ ≠ (.slice Ao93 t238.length co93 : Value).ownBlock) (Kd.R_keptB (HO225.out) hkp (fun k_ hk_ hs_ => (hk_.2.2.2.2.1) hs_)) (fun k_ hk_ => ⟨hk_.1.1, hk_.1.2.1, hk_.1.2.2.1, hk_.1.2.2.2.1, hk_.1.2.2.2.2.1, hk_.1.2.2.2.2.2.1, hk_.1.2.2.2.2.2.2⟩)); have n11_ := aM (blk_kept (aB BK229) hkp (fun hs_ => (fun e_ => (Kd.R_ne HO218.out BK229.out (by decide)) e_) hs_)); have n12_ := aM (Kd.R_mono (ok' := fun k_ => some k_ ≠ (v191 : Value).ownBlock ∧ some k_ ≠ (v197 : Value).ownBlock ∧ some k_ ≠ (.slice Ao51 t202.length co51 : Value).ownBlock ∧ some k_ ≠ (.slice Ao60 t209.length co60 : Value).ownBlock ∧ some k_ ≠ (.slice Ao69 t216.length co69 : Value).ownBlock ∧ some k_ ≠ (.slice Ao78 t223.length co78 : Value).ownBlock ∧ some k_ ≠ (.slice Ao93 t238.length co93 : Value).ownBlock) (Kd.R_keptB (HO233.out) hkp (fun k_ hk_ hs_ => (hk_.2.2.2.2.1) hs_)) (fun k_ hk_ => ⟨hk_.1.1, hk_.1.2.1, hk_.1.2.2.1, hk_.1.2.2.2.1, hk_.1.2.2.2.2.1, hk_.1.2.2.2.2.2.1, hk_.1.2.2.2.2.2.2⟩)); have n13_ := aM (Kd.R_mono (ok' := fun k_ => some k_ ≠ (v191 : Value).ownBlock ∧ some k_ ≠ (v197 : Value).ownBlock ∧ some k_ ≠ (.slice Ao51 t202.length co51 : Value).ownBlock ∧ some k_ ≠ (.slice Ao60 t209.length co60 : Value).ownBlock ∧ some k_ ≠ (.slice Ao69 t216.length co69 : Value).ownBlock ∧ some k_ ≠ (.slice Ao78 t223.length co78 : Value).ownBlock ∧ some k_ ≠ (.slice Ao89 t231.length co89 : Value).ownBlock) (Kd.R_keptB (HO240.out) hkp (fun k_ hk_ hs_ => (hk_.2.2.2.2.1) hs_)) (fun k_ hk_ => ⟨hk_.1.1, hk_.1.2.1, hk_.1.2.2.1, hk_.1.2.2.2.1, hk_.1.2.2.2.2.1, hk_.1.2.2.2.2.2.1, hk_.1.2.2.2.2.2.2⟩)); have n14_ := aM (hb); clear BK186 BK187 HO192 HO198 HO204 BK208 HO211 BK215 HO218 BK222 HO225 BK229 HO233 HO240 HB; have BK186 := n0_; have BK187 := n1_; have HO192 := n2_; have HO198 := n3_; have HO204 := n4_; have BK208 := n5_; have HO211 := n6_; have BK215 := n7_; have HO218 := n8_; have BK222 := n9_; have HO225 := n10_; have BK229 := n11_; have HO233 := n12_; have HO240 := n13_; have HB := n14_; clear n0_ n1_ n2_ n3_ n4_ n5_ n6_ n7_ n8_ n9_ n10_ n11_ n12_ n13_ n14_; (try clear hb); (try clear hkp); (try clear hy0)))
      (try simp only [Act.put, List.setIfInBounds_toArray, List.set_cons_zero, List.set_cons_succ])
      go_cut [63] (fun v63 wc => ∃ (kq : Nat) (x63_34 : Bool), v63 = .bool x63_34 ∧ Aside0 (laws_FnExactMerge.j0 kq x63_34 l0_0 a0_1 a0_2 a0_3 l1_0 a1_1 a1_2 a1_3 t202 t205 t206 t207 t223 t226 t227 t228 = some r) ∧ Aside0 (kq ≤ k) ∧ Aside0 (Kd.R k90 90 wc w.heap.size (fun k_ => some k_ ≠ ((.slice Ao60 t209.length co60) : Value).ownBlock ∧ some k_ ≠ ((.slice Ao69 t216.length co69) : Value).ownBlock ∧ some k_ ≠ ((.slice Ao78 t223.length co78) : Value).ownBlock) (.slice Ao51 t202.length co51) t202) ∧ Aside0 (Kd.R k90 90 wc w.heap.size (fun k_ => some k_ ≠ ((.slice Ao51 t202.length co51) : Value).ownBlock ∧ some k_ ≠ ((.slice Ao69 t216.length co69) : Value).ownBlock ∧ some k_ ≠ ((.slice Ao78 t223.length co78) : Value).ownBlock) (.slice Ao60 t209.length co60) t246) ∧ Aside0 (Kd.R k90 90 wc w.heap.size (fun k_ => some k_ ≠ ((.slice Ao51 t202.length co51) : Value).ownBlock ∧ some k_ ≠ ((.slice Ao60 t209.length co60) : Value).ownBlock ∧ some k_ ≠ ((.slice Ao78 t223.length co78) : Value).ownBlock) (.slice Ao69 t216.length co69) t248) ∧ Aside0 (Kd.R k90 90 wc w.heap.size (fun k_ => some k_ ≠ ((.slice Ao51 t202.length co51) : Value).ownBlock ∧ some k_ ≠ ((.slice Ao60 t209.length co60) : Value).ownBlock ∧ some k_ ≠ ((.slice Ao69 t216.length co69) : Value).ownBlock) (.slice Ao78 t223.length co78) t223) ∧ Aside0 (wc.heap[gb186]? = some (.cells #[(.slice A0_0 l0_0.length c0_0), .int .i64 a0_1, .int .i64 a0_2, .string a0_3] 37 (0, 0))) ∧ Aside0 (wc.heap[gb187]? = some (.cells #[(.slice A1_0 l1_0.length c1_0), .int .i64 a1_1, .int .i64 a1_2, .string a1_3] 37 (0, 0))) ∧ Aside0 (wc.heap[gb208]? = some (.cells #[(.slice Ao51 t202.length co51), .int .i64 t205, .int .i64 t206, .string t207] 41 (0, 0))) ∧ Aside0 (wc.heap[gb215]? = some (.cells #[(.slice Ao60 t209.length co60), .int .i64 t212, .int .i64 t213, .string t214] 41 (0, 0))) ∧ Aside0 (wc.heap[gb222]? = some (.cells #[(.slice Ao69 t216.length co69), .int .i64 t219, .int .i64 t220, .string t221] 41 (0, 0))) ∧ Aside0 (wc.heap[gb229]? = some (.cells #[(.slice Ao78 t223.length co78), .int .i64 t226, .int .i64 t227, .string t228] 41 (0, 0))) ∧ Aside0 (Below w.heap.size w wc))
      case first =>
       have H := HC35.out
       clear HC35
       by_cases c99 : t247 < 0
       ·rw [if_pos c99] at H; have c99b0 : decide (t247 < 0) = true := decide_eq_true c99; clear c99
        (first | rw [c99b0] | (simp only [i64_w, i32_w]; rw [c99b0]) | skip)
        have H' := aM H
        clear H
        go_wp2
        go_meet
        case rel => exact ⟨_, (true), (by first | rfl | (simp; done) | (simp [*]; done)), H', ⟨by first | omega | exact Nat.le_refl _⟩, ⟨by (with_reducible repeat (first | apply aR1 | apply aR2 | apply aR3)); exact Kd.R_mono HO204.out (fun _ hk => ⟨hk.2.2.1, ⟨hk.2.2.2.1, hk.2.2.2.2.1⟩⟩)⟩, ⟨by (with_reducible repeat (first | apply aR1 | apply aR2 | apply aR3)); exact Kd.R_mono HO211.out (fun _ hk => ⟨hk.2.2.1, ⟨hk.2.2.2.1, hk.2.2.2.2.1⟩⟩)⟩, ⟨by (with_reducible repeat (first | apply aR1 | apply aR2 | apply aR3)); exact Kd.R_mono HO218.out (fun _ hk => ⟨hk.2.2.1, ⟨hk.2.2.2.1, hk.2.2.2.2.1⟩⟩)⟩, ⟨by (with_reducible repeat (first | apply aR1 | apply aR2 | apply aR3)); exact Kd.R_mono HO225.out (fun _ hk => ⟨hk.2.2.1, ⟨hk.2.2.2.1, hk.2.2.2.2.1⟩⟩)⟩, ⟨by (with_reducible repeat (first | refine aB1 ?_ _ | refine aB2 ?_ | refine aB3 ?_ _)); exact BK186.out⟩, ⟨by (with_reducible repeat (first | refine aB1 ?_ _ | refine aB2 ?_ | refine aB3 ?_ _)); exact BK187.out⟩, ⟨by (with_reducible repeat (first | refine aB1 ?_ _ | refine aB2 ?_ | refine aB3 ?_ _)); exact BK208.out⟩, ⟨by (with_reducible repeat (first | refine aB1 ?_ _ | refine aB2 ?_ | refine aB3 ?_ _)); exact BK215.out⟩, ⟨by (with_reducible repeat (first | refine aB1 ?_ _ | refine aB2 ?_ | refine aB3 ?_ _)); exact BK222.out⟩, ⟨by (with_reducible repeat (first | refine aB1 ?_ _ | refine aB2 ?_ | refine aB3 ?_ _)); exact BK229.out⟩, ⟨by repeat (first | (with_reducible first | exact HB.out | apply aW1 | apply aW2 | apply aW3 | refine below_set ?_ GE186.out | refine below_set ?_ GE187.out | refine below_set ?_ GE208.out | refine below_set ?_ GE215.out | refine below_set ?_ GE222.out | refine below_set ?_ GE229.out) | exact HB.out)⟩⟩
       ·rw [if_neg c99] at H; have c99b0 : decide (t247 < 0) = false := decide_eq_false c99; clear c99
        (first | rw [c99b0] | (simp only [i64_w, i32_w]; rw [c99b0]) | skip)
        replace H := Option.bind_eq_some_iff.mp H; obtain ⟨t249, A1000, H⟩ := H; try dsimp only at H
        have A100 := aM A1000
        clear A1000
        have H' := aM H
        clear H; have hnb101 := NB229_186.out; have hnc101 := NB186_229.out; have hnb102 := NB229_187.out; have hnc102 := NB187_229.out; have hnb103 := NB229_208.out; have hnc103 := NB208_229.out; have hnb104 := NB229_215.out; have hnc104 := NB215_229.out; have hnb105 := NB229_222.out; have hnc105 := NB222_229.out; have hcz106_0 := cz4_0 BK229; have hcz106_1 := cz4_1 BK229; have hcz106_2 := cz4_2 BK229; have hcz106_3 := cz4_3 BK229; have hfz106_0 := blk_frozen BK229.out 0; have hfz106_1 := blk_frozen BK229.out 1; have hfz106_2 := blk_frozen BK229.out 2; have hfz106_3 := blk_frozen BK229.out 3; have hnb107 := NB208_186.out; have hnc107 := NB186_208.out; have hnb108 := NB208_187.out; have hnc108 := NB187_208.out; have hnb109 := NB208_215.out; have hnc109 := NB215_208.out; have hnb110 := NB208_222.out; have hnc110 := NB222_208.out
        have hcz111_0 : w98.cell? ⟨gb208, 0, none⟩ = some (.slice Ao51 t202.length co51) := (blk_cell BK208.out 0).trans rfl
        have hcz111_1 : w98.cell? ⟨gb208, 1, none⟩ = some (.int .i64 t205) := (blk_cell BK208.out 1).trans rfl
        have hcz111_2 : w98.cell? ⟨gb208, 2, none⟩ = some (.int .i64 t206) := (blk_cell BK208.out 2).trans rfl
        have hcz111_3 : w98.cell? ⟨gb208, 3, none⟩ = some (.string t207) := (blk_cell BK208.out 3).trans rfl
        have hfz111_0 := blk_frozen BK208.out 0; have hfz111_1 := blk_frozen BK208.out 1; have hfz111_2 := blk_frozen BK208.out 2; have hfz111_3 := blk_frozen BK208.out 3
        go_wp2_with (first | (go_at_call 36; (with_reducible refine (laws_eqAlarm.calls k _ _ t223 t226 t227 t228 _ _ t202 t205 t206 t207 t249 _ ?side1 ?side2 ?side3 ?side4 A100.out).mono ?_); (case side1 => repeat (first | exact (Kd.R_reads' HO225.out).2.2 | (with_reducible refine Kd.C_alloc ?_ _) | (with_reducible refine Kd.C_drewN ?_ _) | (with_reducible refine Kd.C_drew ?_))); (case side2 => exact (Kd.R_reads' HO225.out).2.1); (case side3 => repeat (first | exact (Kd.R_reads' HO204.out).2.2 | (with_reducible refine Kd.C_alloc ?_ _) | (with_reducible refine Kd.C_drewN ?_ _) | (with_reducible refine Kd.C_drew ?_))); (case side4 => exact (Kd.R_reads' HO204.out).2.1); rintro e w112 ⟨rfl, hb⟩; have n0_ := rb HO192 hb; have n1_ := rb HO198 hb; have n2_ := rb HO204 hb; have n3_ := rb HO211 hb; have n4_ := rb HO218 hb; have n5_ := rb HO225 hb; have n6_ := rb HO233 hb; have n7_ := rb HO240 hb; have n8_ := bb BK186 hb; have n9_ := bb BK187 hb; have n10_ := bb BK208 hb; have n11_ := bb BK215 hb; have n12_ := bb BK222 hb; have n13_ := bb BK229 hb; have n14_ := aM (below_step (by repeat (first | (with_reducible first | exact HB.out | apply aW1 | apply aW2 | apply aW3 | refine below_set ?_ GE186.out | refine below_set ?_ GE187.out | refine below_set ?_ GE208.out | refine below_set ?_ GE215.out | refine below_set ?_ GE222.out | refine below_set ?_ GE229.out) | exact HB.out)) hb); clear HO192 HO198 HO204 HO211 HO218 HO225 HO233 HO240 BK186 BK187 BK208 BK215 BK222 BK229 HB; have HO192 := n0_; have HO198 := n1_; have HO204 := n2_; have HO211 := n3_; have HO218 := n4_; have HO225 := n5_; have HO233 := n6_; have HO240 := n7_; have BK186 := n8_; have BK187 := n9_; have BK208 := n10_; have BK215 := n11_; have BK222 := n12_; have BK229 := n13_; have HB := n14_; clear n0_ n1_ n2_ n3_ n4_ n5_ n6_ n7_ n8_ n9_ n10_ n11_ n12_ n13_ n14_; (try clear hb); (try clear hb2); (try clear hk); (try clear hi)))
        go_meet
        case rel => exact ⟨_, (!t249), (by first | rfl | (simp; done) | (simp [*]; done)), H', ⟨by first | omega | exact Nat.le_refl _⟩, ⟨by (with_reducible repeat (first | apply aR1 | apply aR2 | apply aR3)); exact Kd.R_mono HO204.out (fun _ hk => ⟨hk.2.2.1, ⟨hk.2.2.2.1, hk.2.2.2.2.1⟩⟩)⟩, ⟨by (with_reducible repeat (first | apply aR1 | apply aR2 | apply aR3)); exact Kd.R_mono HO211.out (fun _ hk => ⟨hk.2.2.1, ⟨hk.2.2.2.1, hk.2.2.2.2.1⟩⟩)⟩, ⟨by (with_reducible repeat (first | apply aR1 | apply aR2 | apply aR3)); exact Kd.R_mono HO218.out (fun _ hk => ⟨hk.2.2.1, ⟨hk.2.2.2.1, hk.2.2.2.2.1⟩⟩)⟩, ⟨by (with_reducible repeat (first | apply aR1 | apply aR2 | apply aR3)); exact Kd.R_mono HO225.out (fun _ hk => ⟨hk.2.2.1, ⟨hk.2.2.2.1, hk.2.2.2.2.1⟩⟩)⟩, ⟨by (with_reducible repeat (first | refine aB1 ?_ _ | refine aB2 ?_ | refine aB3 ?_ _)); exact BK186.out⟩, ⟨by (with_reducible repeat (first | refine aB1 ?_ _ | refine aB2 ?_ | refine aB3 ?_ _)); exact BK187.out⟩, ⟨by (with_reducible repeat (first | refine aB1 ?_ _ | refine aB2 ?_ | refine aB3 ?_ _)); exact BK208.out⟩, ⟨by (with_reducible repeat (first | refine aB1 ?_ _ | refine aB2 ?_ | refine aB3 ?_ _)); exact BK215.out⟩, ⟨by (with_reducible repeat (first | refine aB1 ?_ _ | refine aB2 ?_ | refine aB3 ?_ _)); exact BK222.out⟩, ⟨by (with_reducible repeat (first | refine aB1 ?_ _ | refine aB2 ?_ | refine aB3 ?_ _)); exact BK229.out⟩, ⟨by repeat (first | (with_reducible first | exact HB.out | apply aW1 | apply aW2 | apply aW3 | refine below_set ?_ GE186.out | refine below_set ?_ GE187.out | refine below_set ?_ GE208.out | refine below_set ?_ GE215.out | refine below_set ?_ GE222.out | refine below_set ?_ GE229.out) | exact HB.out)⟩⟩
      case rest =>
       clear HC35
       try clear c1
       try clear p2
       try clear c3
       try clear c5
       try clear c6
       try clear c7
       try clear c8
       try clear c9
       try clear c10
       try clear c11
       try clear c33
       try clear c34
       try clear c35
       try clear c36
       try clear c37
       try clear c56
       try clear c61
       try clear c62
       try clear c63
       try clear c65
       try clear c70
       try clear c71
       try clear c72
       try clear c73
       try clear c79
       try clear c80
       try clear c81
       try clear c82
       try clear c83
       try clear c99
       try clear c99b0
       try clear c101
       try clear c102
       try clear c103
       try clear c104
       try clear c105
       try clear c107
       try clear c108
       try clear c109
       try clear c110
       try clear hcz106_0
       try clear hcz106_1
       try clear hcz106_2
       try clear hcz106_3
       try clear hcz111_0
       try clear hcz111_1
       try clear hcz111_2
       try clear hcz111_3
       try clear hcz57_0
       try clear hcz57_1
       try clear hcz57_2
       try clear hcz57_3
       try clear hcz64_0
       try clear hcz64_1
       try clear hcz64_2
       try clear hcz64_3
       try clear hcz66_0
       try clear hcz66_1
       try clear hcz66_2
       try clear hcz66_3
       try clear hcz74_0
       try clear hcz74_1
       try clear hcz74_2
       try clear hcz74_3
       try clear hcz75_0
       try clear hcz75_1
       try clear hcz75_2
       try clear hcz75_3
       try clear hcz84_0
       try clear hcz84_1
       try clear hcz84_2
       try clear hcz84_3
       try clear hcz85_0
       try clear hcz85_1
       try clear hcz85_2
       try clear hcz85_3
       try clear hcz95_0
       try clear hcz95_1
       try clear hcz95_2
       try clear hcz95_3
       try clear hcz97_0
       try clear hcz97_1
       try clear hcz97_2
       try clear hcz97_3
       try clear hfz106_0
       try clear hfz106_1
       try clear hfz106_2
       try clear hfz106_3
       try clear hfz111_0
       try clear hfz111_1
       try clear hfz111_2
       try clear hfz111_3
       try clear hfz57_0
       try clear hfz57_1
       try clear hfz57_2
       try clear hfz57_3
       try clear hfz64_0
       try clear hfz64_1
       try clear hfz64_2
       try clear hfz64_3
       try clear hfz66_0
       try clear hfz66_1
       try clear hfz66_2
       try clear hfz66_3
       try clear hfz74_0
       try clear hfz74_1
       try clear hfz74_2
       try clear hfz74_3
       try clear hfz75_0
       try clear hfz75_1
       try clear hfz75_2
       try clear hfz75_3
       try clear hfz84_0
       try clear hfz84_1
       try clear hfz84_2
       try clear hfz84_3
       try clear hfz85_0
       try clear hfz85_1
       try clear hfz85_2
       try clear hfz85_3
       try clear hfz95_0
       try clear hfz95_1
       try clear hfz95_2
       try clear hfz95_3
       try clear hfz97_0
       try clear hfz97_1
       try clear hfz97_2
       try clear hfz97_3
       obtain ⟨kq, x63_34, rfl, HA, HJ34, HO_209000, HO_216000, HO_223000, HO_230000, BK186, BK187, BK208, BK215, BK222, BK229, HB⟩ := hcut
       have hl216000_34 := (Kd.R_reads' HO_216000.out).1
       rw [hl216000_34] at HO_216000
       (try simp only [hl216000_34])
       (try simp only [hl216000_34] at BK186)
       (try simp only [hl216000_34] at BK187)
       (try simp only [hl216000_34] at BK208)
       (try simp only [hl216000_34] at BK215)
       (try simp only [hl216000_34] at BK222)
       (try simp only [hl216000_34] at BK229)
       (try simp only [hl216000_34] at HO_209000)
       (try simp only [hl216000_34] at HO_223000)
       (try simp only [hl216000_34] at HO_230000)
       have hl223000_34 := (Kd.R_reads' HO_223000.out).1
       rw [hl223000_34] at HO_223000
       (try simp only [hl223000_34])
       (try simp only [hl223000_34] at BK186)
       (try simp only [hl223000_34] at BK187)
       (try simp only [hl223000_34] at BK208)
       (try simp only [hl223000_34] at BK215)
       (try simp only [hl223000_34] at BK222)
       (try simp only [hl223000_34] at BK229)
       (try simp only [hl223000_34] at HO_209000)
       (try simp only [hl223000_34] at HO_216000)
       (try simp only [hl223000_34] at HO_230000)
       cases kq with
       | zero => exact absurd HA.out (by simp [laws_FnExactMerge.j0])
       | succ kj34 =>
        have H := HA.out
        clear HA
        simp only [laws_FnExactMerge.j0] at H
        by_cases c113 : x63_34 = true
        ·subst c113
         have H1 : (some false) = some r := by rw [if_pos rfl] at H; exact H
         clear H
         have H := H1
         clear H1
         exact absurd (Option.some.inj H) (by rw [hr_.out]; decide)
        ·replace c113 := Bool.eq_false_iff.mpr c113
         subst c113
         have H1 : ((laws_markAlarm.f kj34 t223 t226 t227 t228 1).bind fun bt250 => ((laws_heldAlarm.f kj34 bt250.2 t226 t227 t228 1).bind fun t252 => (if t252 < 0 then (some false) else (if t252 = bt250.1 then ((laws_toAlarm.f kj34 l0_0 a0_1 a0_2 a0_3).bind fun bt253 => ((laws_toAlarm.f kj34 l1_0 a1_1 a1_2 a1_3).bind fun bt259 => ((impl_Merge.f bt253.1 bt253.2.1 bt253.2.2.1 bt253.2.2.2 bt259.1 bt259.2.1 bt259.2.2.1 bt259.2.2.2).bind fun bt265 => ((laws_eqAlarm.f kj34 bt265.1 bt265.2.1 bt265.2.2.1 bt265.2.2.2 t202 t205 t206 t207).bind fun t272 => (if t272 = true then ((laws_heldAlarm.f kj34 bt250.2 t226 t227 t228 1).bind fun t273 => (if t273 < 0 then (some false) else (if t273 = bt250.1 then (some true) else (some false)))) else (some false)))))) else (some false))))) = some r := by rw [if_neg (show ¬ (false = true) by decide)] at H; exact H
         clear H
         have H := H1
         clear H1; replace H := Option.bind_eq_some_iff.mp H
         obtain ⟨⟨t250, t251⟩, A1140, H⟩ := H
         try dsimp only at H
         have A114 := aM A1140
         clear A1140; replace H := Option.bind_eq_some_iff.mp H; obtain ⟨t252, A1150, H⟩ := H; try dsimp only at H
         have A115 := aM A1150
         clear A1150
         by_cases c116 : t252 < 0
         ·rw [if_pos c116] at H; have c116b0 : decide (t252 < 0) = true := decide_eq_true c116; clear c116
          exact absurd (Option.some.inj H) (by rw [hr_.out]; decide)
         ·rw [if_neg c116] at H; have c116b0 : decide (t252 < 0) = false := decide_eq_false c116; clear c116
          by_cases c117 : t252 = t250
          ·rw [if_pos c117] at H
           have c117b0 : (t252 == t250) = true := beq_iff_eq.mpr c117
           have c117b1 : (t252 != t250) = false := bne_eq_false_iff_eq.mpr c117
           clear c117; replace H := Option.bind_eq_some_iff.mp H
           obtain ⟨⟨t253, t256, t257, t258⟩, A1180, H⟩ := H
           try dsimp only at H
           have A118 := aM A1180
           clear A1180; replace H := Option.bind_eq_some_iff.mp H
           obtain ⟨⟨t259, t262, t263, t264⟩, A1190, H⟩ := H
           try dsimp only at H
           have A119 := aM A1190
           clear A1190; replace H := Option.bind_eq_some_iff.mp H
           obtain ⟨⟨t265, t268, t269, t270⟩, A1200, H⟩ := H
           try dsimp only at H
           have A120 := aM A1200
           clear A1200; replace H := Option.bind_eq_some_iff.mp H; obtain ⟨t272, A1210, H⟩ := H; try dsimp only at H
           have A121 := aM A1210
           clear A1210
           by_cases c122 : t272 = true
           ·subst c122
            have H1 : ((laws_heldAlarm.f kj34 t251 t226 t227 t228 1).bind fun t273 => (if t273 < 0 then (some false) else (if t273 = t250 then (some true) else (some false)))) = some r := by rw [if_pos rfl] at H; exact H
            clear H
            have H := H1
            clear H1; replace H := Option.bind_eq_some_iff.mp H; obtain ⟨t273, A1230, H⟩ := H; try dsimp only at H
            have A123 := aM A1230
            clear A1230
            by_cases c124 : t273 < 0
            ·rw [if_pos c124] at H; have c124b0 : decide (t273 < 0) = true := decide_eq_true c124; clear c124
             exact absurd (Option.some.inj H) (by rw [hr_.out]; decide)
            ·rw [if_neg c124] at H; have c124b0 : decide (t273 < 0) = false := decide_eq_false c124; clear c124
             by_cases c125 : t273 = t250
             ·rw [if_pos c125] at H
              have c125b0 : (t273 == t250) = true := beq_iff_eq.mpr c125
              have c125b1 : (t273 != t250) = false := bne_eq_false_iff_eq.mpr c125
              clear c125
              obtain rfl := Option.some.inj H
              have hnb126 := NB229_186.out; have hnc126 := NB186_229.out; have hnb127 := NB229_187.out; have hnc127 := NB187_229.out; have hnb128 := NB229_208.out; have hnc128 := NB208_229.out; have hnb129 := NB229_215.out; have hnc129 := NB215_229.out; have hnb130 := NB229_222.out; have hnc130 := NB222_229.out; have hcz131_0 := cz4_0 BK229; have hcz131_1 := cz4_1 BK229; have hcz131_2 := cz4_2 BK229; have hcz131_3 := cz4_3 BK229; have hfz131_0 := blk_frozen BK229.out 0; have hfz131_1 := blk_frozen BK229.out 1; have hfz131_2 := blk_frozen BK229.out 2; have hfz131_3 := blk_frozen BK229.out 3
              try go_wp2_with (first | ((with_reducible refine gate_callee (f := 37) rfl ?_); refine goesL_ (some 66) rfl rfl Try.func37 (by kernel_rfl) rfl #[.agg #[.slice Ao78 t223.length co78, .int .i64 t226, .int .i64 t227, .string t228], .int .i64 1] rfl (by (try simp only [List.map_toArray, List.map_cons, List.map_nil]); first | done | rfl | (simp only [List.length_drop, List.length_take]; rfl)) ?_; (with_reducible refine (laws_markAlarm.calls kj34 (fun k_ => some k_ = (.slice Ao78 t223.length co78 : Value).ownBlock) (.slice Ao78 t223.length co78) t223 t226 t227 t228 1 t250 t251 w _ ?side1 ?side2 A114.out).mono ?_); (case side1 => repeat (first | (with_reducible first | exact HB.out | apply aW1 | apply aW2 | apply aW3 | refine below_set ?_ GE186.out | refine below_set ?_ GE187.out | refine below_set ?_ GE208.out | refine below_set ?_ GE215.out | refine below_set ?_ GE222.out | refine below_set ?_ GE229.out) | exact HB.out)); (case side2 => exact Kd.R_tight rfl HO_230000.out); rintro e w132 ⟨rfl, hy0, hb, hkp⟩; refine ⟨_, rfl, ?_⟩; have n0_ := aM (Kd.R_mono (ok' := fun k_ => some k_ ≠ (.slice Ao60 t246.length co60 : Value).ownBlock ∧ some k_ ≠ (.slice Ao69 t248.length co69 : Value).ownBlock ∧ some k_ ≠ (.slice Ao78 t223.length co78 : Value).ownBlock) (Kd.R_keptB (HO_209000.out) hkp (fun k_ hk_ hs_ => (hk_.2.2) hs_)) (fun k_ hk_ => ⟨hk_.1.1, hk_.1.2.1, hk_.1.2.2⟩)); have n1_ := aM (Kd.R_mono (ok' := fun k_ => some k_ ≠ (.slice Ao51 t202.length co51 : Value).ownBlock ∧ some k_ ≠ (.slice Ao69 t248.length co69 : Value).ownBlock ∧ some k_ ≠ (.slice Ao78 t223.length co78 : Value).ownBlock) (Kd.R_keptB (HO_216000.out) hkp (fun k_ hk_ hs_ => (hk_.2.2) hs_)) (fun k_ hk_ => ⟨hk_.1.1, hk_.1.2.1, hk_.1.2.2⟩)); have n2_ := aM (Kd.R_mono (ok' := fun k_ => some k_ ≠ (.slice Ao51 t202.length co51 : Value).ownBlock ∧ some k_ ≠ (.slice Ao60 t246.length co60 : Value).ownBlock ∧ some k_ ≠ (.slice Ao78 t223.length co78 : Value).ownBlock) (Kd.R_keptB (HO_223000.out) hkp (fun k_ hk_ hs_ => (hk_.2.2) hs_)) (fun k_ hk_ => ⟨hk_.1.1, hk_.1.2.1, hk_.1.2.2⟩)); have n3_ := aM (Kd.R_reok rfl hy0 (fun k_ e_ => HO_230000.out.1 k_ e_)); have n4_ := aM (blk_kept (aB BK186) hkp (fun hs_ => (fun e_ => (Kd.R_ne HO_230000.out BK186.out (by decide)) e_) hs_)); have n5_ := aM (blk_kept (aB BK187) hkp (fun hs_ => (fun e_ => (Kd.R_ne HO_230000.out BK187.out (by decide)) e_) hs_)); have n6_ := aM (blk_kept (aB BK208) hkp (fun hs_ => (fun e_ => (Kd.R_ne HO_230000.out BK208.out (by decide)) e_) hs_)); have n7_ := aM (blk_kept (aB BK215) hkp (fun hs_ => (fun e_ => (Kd.R_ne HO_230000.out BK215.out (by decide)) e_) hs_)); have n8_ := aM (blk_kept (aB BK222) hkp (fun hs_ => (fun e_ => (Kd.R_ne HO_230000.out BK222.out (by decide)) e_) hs_)); have n9_ := aM (blk_kept (aB BK229) hkp (fun hs_ => (fun e_ => (Kd.R_ne HO_230000.out BK229.out (by decide)) e_) hs_)); have n10_ := aM (hb); clear HO_209000 HO_216000 HO_223000 HO_230000 BK186 BK187 BK208 BK215 BK222 BK229 HB; have HO_209000 := n0_; have HO_216000 := n1_; have HO_223000 := n2_; have HO_230000 := n3_; have BK186 := n4_; have BK187 := n5_; have BK208 := n6_; have BK215 := n7_; have BK222 := n8_; have BK229 := n9_; have HB := n10_; clear n0_ n1_ n2_ n3_ n4_ n5_ n6_ n7_ n8_ n9_ n10_; (try clear hb); (try clear hkp); (try clear hy0); have hcz133_0 := cz4_0 BK229; have hcz133_1 := cz4_1 BK229; have hcz133_2 := cz4_2 BK229; have hcz133_3 := cz4_3 BK229; have hfz133_0 := blk_frozen BK229.out 0; have hfz133_1 := blk_frozen BK229.out 1; have hfz133_2 := blk_frozen BK229.out 2; have hfz133_3 := blk_frozen BK229.out 3) | ((with_reducible refine gate_callee (f := 38) rfl ?_); refine goesL_ (some 69) rfl rfl Try.func38 (by kernel_rfl) rfl #[.agg #[.slice Ao78 t251.length co78, .int .i64 t226, .int .i64 t227, .string t228], .int .i64 1] rfl (by (try simp only [List.map_toArray, List.map_cons, List.map_nil]); first | done | (rw [show t251.length = t223.length from (Kd.R_reads' HO_230000.out).1.symm] <;> rfl) | rfl | (simp only [List.length_drop, List.length_take]; rfl)) ?_; (with_reducible refine (laws_heldAlarm.calls kj34 _ _ t251 t226 t227 t228 1 t252 _ ?side1 ?side2 A115.out).mono ?_); (case side1 => repeat (first | exact (Kd.R_reads' HO_230000.out).2.2 | (with_reducible refine Kd.C_alloc ?_ _) | (with_reducible refine Kd.C_drewN ?_ _) | (with_reducible refine Kd.C_drew ?_))); (case side2 => rw [show t251.length = t223.length from (Kd.R_reads' HO_230000.out).1.symm]; exact (Kd.R_reads' HO_230000.out).2.1); rintro e w134 ⟨rfl, hb⟩; refine ⟨_, rfl, ?_⟩; have n0_ := rb HO_209000 hb; have n1_ := rb HO_216000 hb; have n2_ := rb HO_223000 hb; have n3_ := rb HO_230000 hb; have n4_ := bb BK186 hb; have n5_ := bb BK187 hb; have n6_ := bb BK208 hb; have n7_ := bb BK215 hb; have n8_ := bb BK222 hb; have n9_ := bb BK229 hb; have n10_ := aM (below_step (by repeat (first | (with_reducible first | exact HB.out | apply aW1 | apply aW2 | apply aW3 | refine below_set ?_ GE186.out | refine below_set ?_ GE187.out | refine below_set ?_ GE208.out | refine below_set ?_ GE215.out | refine below_set ?_ GE222.out | refine below_set ?_ GE229.out) | exact HB.out)) hb); clear HO_209000 HO_216000 HO_223000 HO_230000 BK186 BK187 BK208 BK215 BK222 BK229 HB; have HO_209000 := n0_; have HO_216000 := n1_; have HO_223000 := n2_; have HO_230000 := n3_; have BK186 := n4_; have BK187 := n5_; have BK208 := n6_; have BK215 := n7_; have BK222 := n8_; have BK229 := n9_; have HB := n10_; clear n0_ n1_ n2_ n3_ n4_ n5_ n6_ n7_ n8_ n9_ n10_; (try clear hb); (try clear hb2); (try clear hk); (try clear hi)))
              have n0_ := aM (Kd.R_drew HO_209000.out)
              have n1_ := aM (Kd.R_drew HO_216000.out)
              have n2_ := aM (Kd.R_drew HO_223000.out)
              have n3_ := aM (Kd.R_drew HO_230000.out)
              have n4_ := aM (blk_drew BK186.out)
              have n5_ := aM (blk_drew BK187.out)
              have n6_ := aM (blk_drew BK208.out)
              have n7_ := aM (blk_drew BK215.out)
              have n8_ := aM (blk_drew BK222.out)
              have n9_ := aM (blk_drew BK229.out)
              have n10_ := aM (below_drew1 HB.out)
              clear HO_209000 HO_216000 HO_223000 HO_230000 BK186 BK187 BK208 BK215 BK222 BK229 HB; have HO_209000 := n0_; have HO_216000 := n1_; have HO_223000 := n2_; have HO_230000 := n3_; have BK186 := n4_; have BK187 := n5_; have BK208 := n6_; have BK215 := n7_; have BK222 := n8_; have BK229 := n9_; have HB := n10_; clear n0_ n1_ n2_ n3_ n4_ n5_ n6_ n7_ n8_ n9_ n10_
              refine start_ (n := 7) (S := fun w' => w'.cell? ⟨gb186, 0, none⟩ = some (.slice A0_0 l0_0.length c0_0) ∧ w'.cell? ⟨gb186, 1, none⟩ = some (.int .i64 a0_1) ∧ w'.cell? ⟨gb186, 2, none⟩ = some (.int .i64 a0_2) ∧ w'.cell? ⟨gb186, 3, none⟩ = some (.string a0_3) ∧ w'.cell? ⟨gb187, 0, none⟩ = some (.slice A1_0 l1_0.length c1_0) ∧ w'.cell? ⟨gb187, 1, none⟩ = some (.int .i64 a1_1) ∧ w'.cell? ⟨gb187, 2, none⟩ = some (.int .i64 a1_2) ∧ w'.cell? ⟨gb187, 3, none⟩ = some (.string a1_3)) (ds := []) #[false, false, false, false, false, false, false] (by kernel_rfl) rfl rfl ⟨(blk_cell BK186.out 0).trans rfl, (blk_cell BK186.out 1).trans rfl, (blk_cell BK186.out 2).trans rfl, (blk_cell BK186.out 3).trans rfl, (blk_cell BK187.out 0).trans rfl, (blk_cell BK187.out 1).trans rfl, (blk_cell BK187.out 2).trans rfl, (blk_cell BK187.out 3).trans rfl⟩ (fun hHeld => ?_)
              generalize w134.drew = w135 at HO_209000 HO_216000 HO_223000 HO_230000 BK186 BK187 BK208 BK215 BK222 BK229 HB hHeld ⊢
              refine take_ (i := 0) (N := some 75) (v := ?_) (a' := ?_) #[true, false, false, false, false, false, false] rfl rfl (by kernel_rfl) (fun _ _ _ h => h) (Or.inl ⟨by rfl, ?_⟩) hHeld ?_ ?_
              rotate_left
              ·rintro w' ⟨s0, s1, s2, s3, s4, s5, s6, s7⟩
               go_simp
               with_reducible rfl
              rotate_left
              ·simp only [Act.put, List.setIfInBounds_toArray, List.set_cons_zero, List.set_cons_succ, i64_w, i32_w]
               rfl
              refine take_ (i := 2) (N := some 77) (v := ?_) (a' := ?_) #[true, false, true, false, false, false, false] rfl rfl (by kernel_rfl) (fun _ _ _ h => h) (Or.inl ⟨by rfl, ?_⟩) hHeld ?_ ?_
              rotate_left
              ·rintro w' ⟨s0, s1, s2, s3, s4, s5, s6, s7⟩
               go_simp
               with_reducible rfl
              rotate_left
              ·simp only [Act.put, List.setIfInBounds_toArray, List.set_cons_zero, List.set_cons_succ, i64_w, i32_w]
               rfl
              refine join_ (σ := Value × Value × Value × Nat) 1 #[true, true, true, true, true, true, false] (fun s_ => [(76, .agg #[s_.1, .int .i64 t256, .int .i64 t257, .string t258]), (78, .agg #[s_.2.1, .int .i64 t262, .int .i64 t263, .string t264]), (79, .agg #[s_.2.2.1, .int .i64 t268, .int .i64 t269, .string t270]), (13, .pointer (some ⟨s_.2.2.2, 0, none⟩))]) (fun s_ w' => (w'.cell? ⟨gb186, 0, none⟩ = some (.slice A0_0 l0_0.length c0_0) ∧ w'.cell? ⟨gb186, 1, none⟩ = some (.int .i64 a0_1) ∧ w'.cell? ⟨gb186, 2, none⟩ = some (.int .i64 a0_2) ∧ w'.cell? ⟨gb186, 3, none⟩ = some (.string a0_3) ∧ w'.cell? ⟨gb187, 0, none⟩ = some (.slice A1_0 l1_0.length c1_0) ∧ w'.cell? ⟨gb187, 1, none⟩ = some (.int .i64 a1_1) ∧ w'.cell? ⟨gb187, 2, none⟩ = some (.int .i64 a1_2) ∧ w'.cell? ⟨gb187, 3, none⟩ = some (.string a1_3)) ∧ (Kd.R k90 90 w' w.heap.size (fun k_ => some k_ ≠ (s_.2.1 : Value).ownBlock ∧ some k_ ≠ (s_.2.2.1 : Value).ownBlock ∧ some k_ ≠ (.slice Ao51 t202.length co51 : Value).ownBlock ∧ some k_ ≠ (.slice Ao60 t246.length co60 : Value).ownBlock ∧ some k_ ≠ (.slice Ao69 t248.length co69 : Value).ownBlock ∧ some k_ ≠ (.slice Ao78 t223.length co78 : Value).ownBlock) s_.1 t253) ∧ (Kd.R k90 90 w' w.heap.size (fun k_ => some k_ ≠ (s_.1 : Value).ownBlock ∧ some k_ ≠ (s_.2.2.1 : Value).ownBlock ∧ some k_ ≠ (.slice Ao51 t202.length co51 : Value).ownBlock ∧ some k_ ≠ (.slice Ao60 t246.length co60 : Value).ownBlock ∧ some k_ ≠ (.slice Ao69 t248.length co69 : Value).ownBlock ∧ some k_ ≠ (.slice Ao78 t223.length co78 : Value).ownBlock) s_.2.1 t259) ∧ (Kd.R k90 90 w' w.heap.size (fun k_ => some k_ ≠ (s_.1 : Value).ownBlock ∧ some k_ ≠ (s_.2.1 : Value).ownBlock ∧ some k_ ≠ (.slice Ao51 t202.length co51 : Value).ownBlock ∧ some k_ ≠ (.slice Ao60 t246.length co60 : Value).ownBlock ∧ some k_ ≠ (.slice Ao69 t248.length co69 : Value).ownBlock ∧ some k_ ≠ (.slice Ao78 t223.length co78 : Value).ownBlock) s_.2.2.1 t265) ∧ (Kd.R k90 90 w' w.heap.size (fun k_ => some k_ ≠ (s_.1 : Value).ownBlock ∧ some k_ ≠ (s_.2.1 : Value).ownBlock ∧ some k_ ≠ (s_.2.2.1 : Value).ownBlock ∧ some k_ ≠ (.slice Ao60 t246.length co60 : Value).ownBlock ∧ some k_ ≠ (.slice Ao69 t248.length co69 : Value).ownBlock ∧ some k_ ≠ (.slice Ao78 t223.length co78 : Value).ownBlock) (.slice Ao51 t202.length co51) t202) ∧ (Kd.R k90 90 w' w.heap.size (fun k_ => some k_ ≠ (s_.1 : Value).ownBlock ∧ some k_ ≠ (s_.2.1 : Value).ownBlock ∧ some k_ ≠ (s_.2.2.1 : Value).ownBlock ∧ some k_ ≠ (.slice Ao51 t202.length co51 : Value).ownBlock ∧ some k_ ≠ (.slice Ao69 t248.length co69 : Value).ownBlock ∧ some k_ ≠ (.slice Ao78 t223.length co78 : Value).ownBlock) (.slice Ao60 t246.length co60) t246) ∧ (Kd.R k90 90 w' w.heap.size (fun k_ => some k_ ≠ (s_.1 : Value).ownBlock ∧ some k_ ≠ (s_.2.1 : Value).ownBlock ∧ some k_ ≠ (s_.2.2.1 : Value).ownBlock ∧ some k_ ≠ (.slice Ao51 t202.length co51 : Value).ownBlock ∧ some k_ ≠ (.slice Ao60 t246.length co60 : Value).ownBlock ∧ some k_ ≠ (.slice Ao78 t223.length co78 : Value).ownBlock) (.slice Ao69 t248.length co69) t248) ∧ (Kd.R k90 90 w' w.heap.size (fun k_ => some k_ ≠ (s_.1 : Value).ownBlock ∧ some k_ ≠ (s_.2.1 : Value).ownBlock ∧ some k_ ≠ (s_.2.2.1 : Value).ownBlock ∧ some k_ ≠ (.slice Ao51 t202.length co51 : Value).ownBlock ∧ some k_ ≠ (.slice Ao60 t246.length co60 : Value).ownBlock ∧ some k_ ≠ (.slice Ao69 t248.length co69 : Value).ownBlock) (.slice Ao78 t223.length co78) t251) ∧ (w'.heap[gb186]? = some (.cells #[.slice A0_0 l0_0.length c0_0, .int .i64 a0_1, .int .i64 a0_2, .string a0_3] 37 (0, 0))) ∧ (w'.heap[gb187]? = some (.cells #[.slice A1_0 l1_0.length c1_0, .int .i64 a1_1, .int .i64 a1_2, .string a1_3] 37 (0, 0))) ∧ (w'.heap[gb208]? = some (.cells #[.slice Ao51 t202.length co51, .int .i64 t205, .int .i64 t206, .string t207] 41 (0, 0))) ∧ (w'.heap[gb215]? = some (.cells #[.slice Ao60 t246.length co60, .int .i64 t212, .int .i64 t213, .string t214] 41 (0, 0))) ∧ (w'.heap[gb222]? = some (.cells #[.slice Ao69 t248.length co69, .int .i64 t219, .int .i64 t220, .string t221] 41 (0, 0))) ∧ (w'.heap[gb229]? = some (.cells #[.slice Ao78 t223.length co78, .int .i64 t226, .int .i64 t227, .string t228] 41 (0, 0))) ∧ (w'.heap[s_.2.2.2]? = some (.cells #[.slice none 0 0, .int .i64 0, .int .i64 0, .string (⟨#[]⟩ : ByteArray)] 41 (0, 0))) ∧ (w.heap.size ≤ s_.2.2.2) ∧ (w.heap.size ≤ s_.2.2.2) ∧ (gb186 ≠ s_.2.2.2) ∧ (s_.2.2.2 ≠ gb186) ∧ (gb187 ≠ s_.2.2.2) ∧ (s_.2.2.2 ≠ gb187) ∧ (gb208 ≠ s_.2.2.2) ∧ (s_.2.2.2 ≠ gb208) ∧ (gb215 ≠ s_.2.2.2) ∧ (s_.2.2.2 ≠ gb215) ∧ (gb222 ≠ s_.2.2.2) ∧ (s_.2.2.2 ≠ gb222) ∧ (gb229 ≠ s_.2.2.2) ∧ (s_.2.2.2 ≠ gb229) ∧ (Below w.heap.size w w')) ?_ ?_
              rotate_left
              ·intro hCont
               refine two_ (i := 1) (j := 5) (Ni := some 76) (Nj := some 13) #[true, true, true, false, false, false, false] #[true, false, true, false, false, true, false] rfl rfl rfl rfl (by kernel_rfl) (by decide) (by decide) (fun K hK => ?_) (fun K hK => ?_)
               ·skip
                refine goes_ Try.func34 (by kernel_rfl) rfl #[.agg #[.slice A0_0 l0_0.length c0_0, .int .i64 a0_1, .int .i64 a0_2, .string a0_3]] (by rfl) rfl rfl (by (try simp only [List.map_toArray, List.map_cons, List.map_nil]); first | done | rfl | (simp only [List.length_drop, List.length_take]; rfl)) ?_
                with_reducible refine (laws_toAlarm.calls kj34 _ _ l0_0 a0_1 a0_2 a0_3 t253 t256 t257 t258 _ ?side1 ?side2 A118.out).mono ?_
                (case side1 => repeat (first | exact (Kd.C_below HR0_0.out HB.out) | (with_reducible refine Kd.C_alloc ?_ _) | (with_reducible refine Kd.C_drewN ?_ _) | (with_reducible refine Kd.C_drew ?_)))
                (case side2 => exact HC0_0.out)
                rintro e w136 ⟨v254, rfl, ho0, hb⟩
                refine ⟨_, rfl, ?_⟩
                have n0_ := aM (Kd.R_elder' (aR HO_209000) (Kd.R_base ho0) hb)
                have n1_ := aM (Kd.R_elder' (aR HO_216000) (Kd.R_base ho0) hb)
                have n2_ := aM (Kd.R_elder' (aR HO_223000) (Kd.R_base ho0) hb)
                have n3_ := aM (Kd.R_elder' (aR HO_230000) (Kd.R_base ho0) hb)
                have n4_ := aM (Kd.R_lower (Kd.R_new' (Kd.R_new' (Kd.R_new' (Kd.R_new' ho0 (Kd.R_lt (aR HO_209000))) (Kd.R_lt (aR HO_216000))) (Kd.R_lt (aR HO_223000))) (Kd.R_lt (aR HO_230000))) (below_size (by repeat (first | (with_reducible first | exact HB.out | apply aW1 | apply aW2 | apply aW3 | refine below_set ?_ GE186.out | refine below_set ?_ GE187.out | refine below_set ?_ GE208.out | refine below_set ?_ GE215.out | refine below_set ?_ GE222.out | refine below_set ?_ GE229.out) | exact HB.out))))
                have n5_ := bb BK186 hb; have n6_ := bb BK187 hb; have n7_ := bb BK208 hb; have n8_ := bb BK215 hb; have n9_ := bb BK222 hb; have n10_ := bb BK229 hb
                have n11_ := aM (below_step (by repeat (first | (with_reducible first | exact HB.out | apply aW1 | apply aW2 | apply aW3 | refine below_set ?_ GE186.out | refine below_set ?_ GE187.out | refine below_set ?_ GE208.out | refine below_set ?_ GE215.out | refine below_set ?_ GE222.out | refine below_set ?_ GE229.out) | exact HB.out)) hb)
                clear HO_209000 HO_216000 HO_223000 HO_230000 BK186 BK187 BK208 BK215 BK222 BK229 HB; have HO_209000 := n0_; have HO_216000 := n1_; have HO_223000 := n2_; have HO_230000 := n3_; have HO255 := n4_; have BK186 := n5_; have BK187 := n6_; have BK208 := n7_; have BK215 := n8_; have BK222 := n9_; have BK229 := n10_; have HB := n11_; clear n0_ n1_ n2_ n3_ n4_ n5_ n6_ n7_ n8_ n9_ n10_ n11_
                (try clear hb)
                (try clear hb2)
                (try clear hk)
                (try clear hi)
                (try clear ho0)
                refine hK.out _ _ ⟨(blk_cell BK186.out 0).trans rfl, (blk_cell BK186.out 1).trans rfl, (blk_cell BK186.out 2).trans rfl, (blk_cell BK186.out 3).trans rfl, (blk_cell BK187.out 0).trans rfl, (blk_cell BK187.out 1).trans rfl, (blk_cell BK187.out 2).trans rfl, (blk_cell BK187.out 3).trans rfl⟩ (fun hHeld => ?_)
                clear hK K
                refine norm_ (a' := ?_) ?_ ?_
                rotate_left
                ·show Act.put _ (some 76) _ = _
                 simp only [Act.put, List.setIfInBounds_toArray, List.set_cons_zero, List.set_cons_succ, i64_w, i32_w]
                 rfl
                refine two_ (i := 3) (j := 5) (Ni := some 78) (Nj := some 13) #[true, true, true, true, false, false, false] #[true, true, true, false, false, true, false] rfl rfl rfl rfl (by kernel_rfl) (by decide) (by decide) (fun K hK => ?_) (fun K hK => ?_)
                ·skip
                 refine goes_ Try.func34 (by kernel_rfl) rfl #[.agg #[.slice A1_0 l1_0.length c1_0, .int .i64 a1_1, .int .i64 a1_2, .string a1_3]] (by rfl) rfl rfl (by (try simp only [List.map_toArray, List.map_cons, List.map_nil]); first | done | rfl | (simp only [List.length_drop, List.length_take]; rfl)) ?_
                 with_reducible refine (laws_toAlarm.calls kj34 _ _ l1_0 a1_1 a1_2 a1_3 t259 t262 t263 t264 _ ?side1 ?side2 A119.out).mono ?_
                 (case side1 => repeat (first | exact (Kd.C_below HR1_0.out HB.out) | (with_reducible refine Kd.C_alloc ?_ _) | (with_reducible refine Kd.C_drewN ?_ _) | (with_reducible refine Kd.C_drew ?_)))
                 (case side2 => exact HC1_0.out)
                 rintro e w137 ⟨v260, rfl, ho0, hb⟩
                 refine ⟨_, rfl, ?_⟩
                 have n0_ := aM (Kd.R_elder' (aR HO_209000) (Kd.R_base ho0) hb)
                 have n1_ := aM (Kd.R_elder' (aR HO_216000) (Kd.R_base ho0) hb)
                 have n2_ := aM (Kd.R_elder' (aR HO_223000) (Kd.R_base ho0) hb)
                 have n3_ := aM (Kd.R_elder' (aR HO_230000) (Kd.R_base ho0) hb)
                 have n4_ := aM (Kd.R_elder' (aR HO255) (Kd.R_base ho0) hb)
                 have n5_ := aM (Kd.R_lower (Kd.R_new' (Kd.R_new' (Kd.R_new' (Kd.R_new' (Kd.R_new' ho0 (Kd.R_lt (aR HO_209000))) (Kd.R_lt (aR HO_216000))) (Kd.R_lt (aR HO_223000))) (Kd.R_lt (aR HO_230000))) (Kd.R_lt (aR HO255))) (below_size (by repeat (first | (with_reducible first | exact HB.out | apply aW1 | apply aW2 | apply aW3 | refine below_set ?_ GE186.out | refine below_set ?_ GE187.out | refine below_set ?_ GE208.out | refine below_set ?_ GE215.out | refine below_set ?_ GE222.out | refine below_set ?_ GE229.out) | exact HB.out))))
                 have n6_ := bb BK186 hb; have n7_ := bb BK187 hb; have n8_ := bb BK208 hb; have n9_ := bb BK215 hb; have n10_ := bb BK222 hb; have n11_ := bb BK229 hb
                 have n12_ := aM (below_step (by repeat (first | (with_reducible first | exact HB.out | apply aW1 | apply aW2 | apply aW3 | refine below_set ?_ GE186.out | refine below_set ?_ GE187.out | refine below_set ?_ GE208.out | refine below_set ?_ GE215.out | refine below_set ?_ GE222.out | refine below_set ?_ GE229.out) | exact HB.out)) hb)
                 clear HO_209000 HO_216000 HO_223000 HO_230000 HO255 BK186 BK187 BK208 BK215 BK222 BK229 HB; have HO_209000 := n0_; have HO_216000 := n1_; have HO_223000 := n2_; have HO_230000 := n3_; have HO255 := n4_; have HO261 := n5_; have BK186 := n6_; have BK187 := n7_; have BK208 := n8_; have BK215 := n9_; have BK222 := n10_; have BK229 := n11_; have HB := n12_; clear n0_ n1_ n2_ n3_ n4_ n5_ n6_ n7_ n8_ n9_ n10_ n11_ n12_
                 (try clear hb)
                 (try clear hb2)
                 (try clear hk)
                 (try clear hi)
                 (try clear ho0)
                 obtain ⟨Ao138, co138, eo138⟩ := Kd.R_slice HO255.out
                 (first | subst eo138 | (injection eo138 with f1_ f2_ f3_; have f4_ := f1_.symm; have f5_ := f3_.symm; clear f1_ f2_ f3_; subst f4_; subst f5_))
                 obtain ⟨Ao139, co139, eo139⟩ := Kd.R_slice HO261.out
                 (first | subst eo139 | (injection eo139 with f1_ f2_ f3_; have f4_ := f1_.symm; have f5_ := f3_.symm; clear f1_ f2_ f3_; subst f4_; subst f5_))
                 refine hK.out _ _ ⟨(blk_cell BK186.out 0).trans rfl, (blk_cell BK186.out 1).trans rfl, (blk_cell BK186.out 2).trans rfl, (blk_cell BK186.out 3).trans rfl, (blk_cell BK187.out 0).trans rfl, (blk_cell BK187.out 1).trans rfl, (blk_cell BK187.out 2).trans rfl, (blk_cell BK187.out 3).trans rfl⟩ (fun hHeld => ?_)
                 clear hK K
                 refine norm_ (a' := ?_) ?_ ?_
                 rotate_left
                 ·show Act.put _ (some 78) _ = _
                  simp only [Act.put, List.setIfInBounds_toArray, List.set_cons_zero, List.set_cons_succ, i64_w, i32_w]
                  rfl
                 refine two_ (i := 4) (j := 5) (Ni := some 79) (Nj := some 13) #[true, true, true, true, true, false, false] #[true, true, true, true, false, true, false] rfl rfl rfl rfl (by kernel_rfl) (by decide) (by decide) (fun K hK => ?_) (fun K hK => ?_)
                 ·skip
                  refine goes_ Try.func35 (by kernel_rfl) rfl #[.agg #[.slice Ao138 t253.length co138, .int .i64 t256, .int .i64 t257, .string t258], .agg #[.slice Ao139 t259.length co139, .int .i64 t262, .int .i64 t263, .string t264]] (by rfl) rfl rfl (by (try simp only [List.map_toArray, List.map_cons, List.map_nil]); first | done | rfl | (simp only [List.length_drop, List.length_take]; rfl)) ?_
                  with_reducible refine (impl_Merge.calls _ _ t253 t256 t257 t258 _ _ t259 t262 t263 t264 t265 t268 t269 t270 _ ?side1 ?side2 ?side3 ?side4 A120.out).mono ?_
                  (case side1 => repeat (first | exact (Kd.R_reads' HO255.out).2.2 | (with_reducible refine Kd.C_alloc ?_ _) | (with_reducible refine Kd.C_drewN ?_ _) | (with_reducible refine Kd.C_drew ?_)))
                  (case side2 => exact (Kd.R_reads' HO255.out).2.1)
                  (case side3 => repeat (first | exact (Kd.R_reads' HO261.out).2.2 | (with_reducible refine Kd.C_alloc ?_ _) | (with_reducible refine Kd.C_drewN ?_ _) | (with_reducible refine Kd.C_drew ?_)))
                  (case side4 => exact (Kd.R_reads' HO261.out).2.1)
                  rintro e w140 ⟨v266, rfl, ho0, hb⟩
                  refine ⟨_, rfl, ?_⟩
                  have n0_ := aM (Kd.R_elder' (aR HO_209000) (Kd.R_base ho0) hb)
                  have n1_ := aM (Kd.R_elder' (aR HO_216000) (Kd.R_base ho0) hb)
                  have n2_ := aM (Kd.R_elder' (aR HO_223000) (Kd.R_base ho0) hb)
                  have n3_ := aM (Kd.R_elder' (aR HO_230000) (Kd.R_base ho0) hb)
                  have n4_ := aM (Kd.R_elder' (aR HO255) (Kd.R_base ho0) hb)
                  have n5_ := aM (Kd.R_elder' (aR HO261) (Kd.R_base ho0) hb)
                  have n6_ := aM (Kd.R_lower (Kd.R_new' (Kd.R_new' (Kd.R_new' (Kd.R_new' (Kd.R_new' (Kd.R_new' ho0 (Kd.R_lt (aR HO_209000))) (Kd.R_lt (aR HO_216000))) (Kd.R_lt (aR HO_223000))) (Kd.R_lt (aR HO_230000))) (Kd.R_lt (aR HO255))) (Kd.R_lt (aR HO261))) (below_size (by repeat (first | (with_reducible first | exact HB.out | apply aW1 | apply aW2 | apply aW3 | refine below_set ?_ GE186.out | refine below_set ?_ GE187.out | refine below_set ?_ GE208.out | refine below_set ?_ GE215.out | refine below_set ?_ GE222.out | refine below_set ?_ GE229.out) | exact HB.out))))
                  have n7_ := bb BK186 hb; have n8_ := bb BK187 hb; have n9_ := bb BK208 hb; have n10_ := bb BK215 hb; have n11_ := bb BK222 hb; have n12_ := bb BK229 hb
                  have n13_ := aM (below_step (by repeat (first | (with_reducible first | exact HB.out | apply aW1 | apply aW2 | apply aW3 | refine below_set ?_ GE186.out | refine below_set ?_ GE187.out | refine below_set ?_ GE208.out | refine below_set ?_ GE215.out | refine below_set ?_ GE222.out | refine below_set ?_ GE229.out) | exact HB.out)) hb)
                  clear HO_209000 HO_216000 HO_223000 HO_230000 HO255 HO261 BK186 BK187 BK208 BK215 BK222 BK229 HB; have HO_209000 := n0_; have HO_216000 := n1_; have HO_223000 := n2_; have HO_230000 := n3_; have HO255 := n4_; have HO261 := n5_; have HO267 := n6_; have BK186 := n7_; have BK187 := n8_; have BK208 := n9_; have BK215 := n10_; have BK222 := n11_; have BK229 := n12_; have HB := n13_; clear n0_ n1_ n2_ n3_ n4_ n5_ n6_ n7_ n8_ n9_ n10_ n11_ n12_ n13_
                  (try clear hb)
                  (try clear hb2)
                  (try clear hk)
                  (try clear hi)
                  (try clear ho0)
                  refine hK.out _ _ ⟨(blk_cell BK186.out 0).trans rfl, (blk_cell BK186.out 1).trans rfl, (blk_cell BK186.out 2).trans rfl, (blk_cell BK186.out 3).trans rfl, (blk_cell BK187.out 0).trans rfl, (blk_cell BK187.out 1).trans rfl, (blk_cell BK187.out 2).trans rfl, (blk_cell BK187.out 3).trans rfl⟩ (fun hHeld => ?_)
                  clear hK K
                  refine norm_ (a' := ?_) ?_ ?_
                  rotate_left
                  ·show Act.put _ (some 79) _ = _
                   simp only [Act.put, List.setIfInBounds_toArray, List.set_cons_zero, List.set_cons_succ, i64_w, i32_w]
                   rfl
                  refine one_ (i := 5) (N := some 13) #[true, true, true, true, true, true, false] rfl rfl (by kernel_rfl) (by decide) (fun K hK => ?_)
                  refine box_step ?hg (N := 13) ?hd (cs := #[.slice none 0 0, .int .i64 0, .int .i64 0, .string (⟨#[]⟩ : ByteArray)]) (t := 41) ?hr ?_; (case hd => rfl); (case hg => rfl); (case hr => first | (go_simp; done) | (go_simp; rfl))
                  intro gb271 hg w141 hbox hb
                  have n0_ := rb HO_209000 hb; have n1_ := rb HO_216000 hb; have n2_ := rb HO_223000 hb; have n3_ := rb HO_230000 hb; have n4_ := rb HO255 hb; have n5_ := rb HO261 hb; have n6_ := rb HO267 hb; have n7_ := bb BK186 hb; have n8_ := bb BK187 hb; have n9_ := bb BK208 hb; have n10_ := bb BK215 hb; have n11_ := bb BK222 hb; have n12_ := bb BK229 hb
                  have n13_ := aM (below_step (by repeat (first | (with_reducible first | exact HB.out | apply aW1 | apply aW2 | apply aW3 | refine below_set ?_ GE186.out | refine below_set ?_ GE187.out | refine below_set ?_ GE208.out | refine below_set ?_ GE215.out | refine below_set ?_ GE222.out | refine below_set ?_ GE229.out) | exact HB.out)) hb)
                  have n14_ := aM (hbox)
                  have n15_ := aM ((by rw [hg]; exact (below_size (by repeat (first | (with_reducible first | exact HB.out | apply aW1 | apply aW2 | apply aW3 | refine below_set ?_ GE186.out | refine below_set ?_ GE187.out | refine below_set ?_ GE208.out | refine below_set ?_ GE215.out | refine below_set ?_ GE222.out | refine below_set ?_ GE229.out) | exact HB.out))) : w.heap.size ≤ gb271))
                  have n16_ := aM ((by rw [hg]; exact (below_size (by repeat (first | (with_reducible first | exact HB.out | apply aW1 | apply aW2 | apply aW3 | refine below_set ?_ GE186.out | refine below_set ?_ GE187.out | refine below_set ?_ GE208.out | refine below_set ?_ GE215.out | refine below_set ?_ GE222.out | refine below_set ?_ GE229.out) | exact HB.out))) : w.heap.size ≤ gb271))
                  have n17_ := aM ((by rw [hg]; exact Nat.ne_of_lt (blk_lt (g := gb186) (aB BK186)) : gb186 ≠ gb271))
                  have n18_ := aM ((by rw [hg]; exact Nat.ne_of_gt (blk_lt (g := gb186) (aB BK186)) : gb271 ≠ gb186))
                  have n19_ := aM ((by rw [hg]; exact Nat.ne_of_lt (blk_lt (g := gb187) (aB BK187)) : gb187 ≠ gb271))
                  have n20_ := aM ((by rw [hg]; exact Nat.ne_of_gt (blk_lt (g := gb187) (aB BK187)) : gb271 ≠ gb187))
                  have n21_ := aM ((by rw [hg]; exact Nat.ne_of_lt (blk_lt (g := gb208) (aB BK208)) : gb208 ≠ gb271))
                  have n22_ := aM ((by rw [hg]; exact Nat.ne_of_gt (blk_lt (g := gb208) (aB BK208)) : gb271 ≠ gb208))
                  have n23_ := aM ((by rw [hg]; exact Nat.ne_of_lt (blk_lt (g := gb215) (aB BK215)) : gb215 ≠ gb271))
                  have n24_ := aM ((by rw [hg]; exact Nat.ne_of_gt (blk_lt (g := gb215) (aB BK215)) : gb271 ≠ gb215))
                  have n25_ := aM ((by rw [hg]; exact Nat.ne_of_lt (blk_lt (g := gb222) (aB BK222)) : gb222 ≠ gb271))
                  have n26_ := aM ((by rw [hg]; exact Nat.ne_of_gt (blk_lt (g := gb222) (aB BK222)) : gb271 ≠ gb222))
                  have n27_ := aM ((by rw [hg]; exact Nat.ne_of_lt (blk_lt (g := gb229) (aB BK229)) : gb229 ≠ gb271))
                  have n28_ := aM ((by rw [hg]; exact Nat.ne_of_gt (blk_lt (g := gb229) (aB BK229)) : gb271 ≠ gb229))
                  clear HO_209000 HO_216000 HO_223000 HO_230000 HO255 HO261 HO267 BK186 BK187 BK208 BK215 BK222 BK229 HB; have HO_209000 := n0_; have HO_216000 := n1_; have HO_223000 := n2_; have HO_230000 := n3_; have HO255 := n4_; have HO261 := n5_; have HO267 := n6_; have BK186 := n7_; have BK187 := n8_; have BK208 := n9_; have BK215 := n10_; have BK222 := n11_; have BK229 := n12_; have HB := n13_; have BK271 := n14_; have GW271 := n15_; have GE271 := n16_; have NB186_271 := n17_; have NB271_186 := n18_; have NB187_271 := n19_; have NB271_187 := n20_; have NB208_271 := n21_; have NB271_208 := n22_; have NB215_271 := n23_; have NB271_215 := n24_; have NB222_271 := n25_; have NB271_222 := n26_; have NB229_271 := n27_; have NB271_229 := n28_; clear n0_ n1_ n2_ n3_ n4_ n5_ n6_ n7_ n8_ n9_ n10_ n11_ n12_ n13_ n14_ n15_ n16_ n17_ n18_ n19_ n20_ n21_ n22_ n23_ n24_ n25_ n26_ n27_ n28_ hb hbox hg
                  refine hK.out _ _ ⟨(blk_cell BK186.out 0).trans rfl, (blk_cell BK186.out 1).trans rfl, (blk_cell BK186.out 2).trans rfl, (blk_cell BK186.out 3).trans rfl, (blk_cell BK187.out 0).trans rfl, (blk_cell BK187.out 1).trans rfl, (blk_cell BK187.out 2).trans rfl, (blk_cell BK187.out 3).trans rfl⟩ (fun hHeld => ?_)
                  clear hK K
                  refine norm_ (a' := ?_) ?_ ?_
                  rotate_left
                  ·show Act.put _ (some 13) _ = _
                   simp only [Act.put, List.setIfInBounds_toArray, List.set_cons_zero, List.set_cons_succ, i64_w, i32_w]
                   rfl
                  exact norm_ (by simp only [putAll, Act.put, List.setIfInBounds_toArray, List.set_cons_zero, List.set_cons_succ]) (hCont (.slice Ao138 t253.length co138, .slice Ao139 t259.length co139, v266, gb271) _ ⟨hHeld, (by (with_reducible repeat (first | apply aR1 | apply aR2 | apply aR3)); exact Kd.R_mono HO255.out (fun _ hk => ⟨hk.1.2, ⟨hk.2, ⟨hk.1.1.1.1.1.2, ⟨hk.1.1.1.1.2, ⟨hk.1.1.1.2, hk.1.1.2⟩⟩⟩⟩⟩)), (by (with_reducible repeat (first | apply aR1 | apply aR2 | apply aR3)); exact Kd.R_mono HO261.out (fun _ hk => ⟨hk.1.2, ⟨hk.2, ⟨hk.1.1.1.1.1.2, ⟨hk.1.1.1.1.2, ⟨hk.1.1.1.2, hk.1.1.2⟩⟩⟩⟩⟩)), (by (with_reducible repeat (first | apply aR1 | apply aR2 | apply aR3)); exact Kd.R_mono HO267.out (fun _ hk => ⟨hk.1.2, ⟨hk.2, ⟨hk.1.1.1.1.1.2, ⟨hk.1.1.1.1.2, ⟨hk.1.1.1.2, hk.1.1.2⟩⟩⟩⟩⟩)), (by (with_reducible repeat (first | apply aR1 | apply aR2 | apply aR3)); exact Kd.R_mono HO_209000.out (fun _ hk => ⟨hk.1.1.2, ⟨hk.1.2, ⟨hk.2, ⟨hk.1.1.1.1, ⟨hk.1.1.1.2.1, hk.1.1.1.2.2⟩⟩⟩⟩⟩)), (by (with_reducible repeat (first | apply aR1 | apply aR2 | apply aR3)); exact Kd.R_mono HO_216000.out (fun _ hk => ⟨hk.1.1.2, ⟨hk.1.2, ⟨hk.2, ⟨hk.1.1.1.1, ⟨hk.1.1.1.2.1, hk.1.1.1.2.2⟩⟩⟩⟩⟩)), (by (with_reducible repeat (first | apply aR1 | apply aR2 | apply aR3)); exact Kd.R_mono HO_223000.out (fun _ hk => ⟨hk.1.1.2, ⟨hk.1.2, ⟨hk.2, ⟨hk.1.1.1.1, ⟨hk.1.1.1.2.1, hk.1.1.1.2.2⟩⟩⟩⟩⟩)), (by (with_reducible repeat (first | apply aR1 | apply aR2 | apply aR3)); exact Kd.R_mono HO_230000.out (fun _ hk => ⟨hk.1.1.2, ⟨hk.1.2, ⟨hk.2, ⟨hk.1.1.1.1, ⟨hk.1.1.1.2.1, hk.1.1.1.2.2⟩⟩⟩⟩⟩)), (aB BK186), (aB BK187), (aB BK208), (aB BK215), (aB BK222), (aB BK229), (aB BK271), GW271.out, GE271.out, NB186_271.out, NB271_186.out, NB187_271.out, NB271_187.out, NB208_271.out, NB271_208.out, NB215_271.out, NB271_215.out, NB222_271.out, NB271_222.out, NB229_271.out, NB271_229.out, (by repeat (first | (with_reducible first | exact HB.out | apply aW1 | apply aW2 | apply aW3 | refine below_set ?_ GE186.out | refine below_set ?_ GE187.out | refine below_set ?_ GE208.out | refine below_set ?_ GE215.out | refine below_set ?_ GE222.out | refine below_set ?_ GE229.out | refine below_set ?_ GE271.out) | exact HB.out))⟩)
                 ·skip
                  refine box_step ?hg (N := 13) ?hd (cs := #[.slice none 0 0, .int .i64 0, .int .i64 0, .string (⟨#[]⟩ : ByteArray)]) (t := 41) ?hr ?_; (case hd => rfl); (case hg => rfl); (case hr => first | (go_simp; done) | (go_simp; rfl))
                  intro gb271 hg w138 hbox hb
                  have n0_ := rb HO_209000 hb; have n1_ := rb HO_216000 hb; have n2_ := rb HO_223000 hb; have n3_ := rb HO_230000 hb; have n4_ := rb HO255 hb; have n5_ := rb HO261 hb; have n6_ := bb BK186 hb; have n7_ := bb BK187 hb; have n8_ := bb BK208 hb; have n9_ := bb BK215 hb; have n10_ := bb BK222 hb; have n11_ := bb BK229 hb
                  have n12_ := aM (below_step (by repeat (first | (with_reducible first | exact HB.out | apply aW1 | apply aW2 | apply aW3 | refine below_set ?_ GE186.out | refine below_set ?_ GE187.out | refine below_set ?_ GE208.out | refine below_set ?_ GE215.out | refine below_set ?_ GE222.out | refine below_set ?_ GE229.out) | exact HB.out)) hb)
                  have n13_ := aM (hbox)
                  have n14_ := aM ((by rw [hg]; exact (below_size (by repeat (first | (with_reducible first | exact HB.out | apply aW1 | apply aW2 | apply aW3 | refine below_set ?_ GE186.out | refine below_set ?_ GE187.out | refine below_set ?_ GE208.out | refine below_set ?_ GE215.out | refine below_set ?_ GE222.out | refine below_set ?_ GE229.out) | exact HB.out))) : w.heap.size ≤ gb271))
                  have n15_ := aM ((by rw [hg]; exact (below_size (by repeat (first | (with_reducible first | exact HB.out | apply aW1 | apply aW2 | apply aW3 | refine below_set ?_ GE186.out | refine below_set ?_ GE187.out | refine below_set ?_ GE208.out | refine below_set ?_ GE215.out | refine below_set ?_ GE222.out | refine below_set ?_ GE229.out) | exact HB.out))) : w.heap.size ≤ gb271))
                  have n16_ := aM ((by rw [hg]; exact Nat.ne_of_lt (blk_lt (g := gb186) (aB BK186)) : gb186 ≠ gb271))
                  have n17_ := aM ((by rw [hg]; exact Nat.ne_of_gt (blk_lt (g := gb186) (aB BK186)) : gb271 ≠ gb186))
                  have n18_ := aM ((by rw [hg]; exact Nat.ne_of_lt (blk_lt (g := gb187) (aB BK187)) : gb187 ≠ gb271))
                  have n19_ := aM ((by rw [hg]; exact Nat.ne_of_gt (blk_lt (g := gb187) (aB BK187)) : gb271 ≠ gb187))
                  have n20_ := aM ((by rw [hg]; exact Nat.ne_of_lt (blk_lt (g := gb208) (aB BK208)) : gb208 ≠ gb271))
                  have n21_ := aM ((by rw [hg]; exact Nat.ne_of_gt (blk_lt (g := gb208) (aB BK208)) : gb271 ≠ gb208))
                  have n22_ := aM ((by rw [hg]; exact Nat.ne_of_lt (blk_lt (g := gb215) (aB BK215)) : gb215 ≠ gb271))
                  have n23_ := aM ((by rw [hg]; exact Nat.ne_of_gt (blk_lt (g := gb215) (aB BK215)) : gb271 ≠ gb215))
                  have n24_ := aM ((by rw [hg]; exact Nat.ne_of_lt (blk_lt (g := gb222) (aB BK222)) : gb222 ≠ gb271))
                  have n25_ := aM ((by rw [hg]; exact Nat.ne_of_gt (blk_lt (g := gb222) (aB BK222)) : gb271 ≠ gb222))
                  have n26_ := aM ((by rw [hg]; exact Nat.ne_of_lt (blk_lt (g := gb229) (aB BK229)) : gb229 ≠ gb271))
                  have n27_ := aM ((by rw [hg]; exact Nat.ne_of_gt (blk_lt (g := gb229) (aB BK229)) : gb271 ≠ gb229))
                  clear HO_209000 HO_216000 HO_223000 HO_230000 HO255 HO261 BK186 BK187 BK208 BK215 BK222 BK229 HB; have HO_209000 := n0_; have HO_216000 := n1_; have HO_223000 := n2_; have HO_230000 := n3_; have HO255 := n4_; have HO261 := n5_; have BK186 := n6_; have BK187 := n7_; have BK208 := n8_; have BK215 := n9_; have BK222 := n10_; have BK229 := n11_; have HB := n12_; have BK271 := n13_; have GW271 := n14_; have GE271 := n15_; have NB186_271 := n16_; have NB271_186 := n17_; have NB187_271 := n18_; have NB271_187 := n19_; have NB208_271 := n20_; have NB271_208 := n21_; have NB215_271 := n22_; have NB271_215 := n23_; have NB222_271 := n24_; have NB271_222 := n25_; have NB229_271 := n26_; have NB271_229 := n27_; clear n0_ n1_ n2_ n3_ n4_ n5_ n6_ n7_ n8_ n9_ n10_ n11_ n12_ n13_ n14_ n15_ n16_ n17_ n18_ n19_ n20_ n21_ n22_ n23_ n24_ n25_ n26_ n27_ hb hbox hg
                  obtain ⟨Ao139, co139, eo139⟩ := Kd.R_slice HO255.out
                  (first | subst eo139 | (injection eo139 with f1_ f2_ f3_; have f4_ := f1_.symm; have f5_ := f3_.symm; clear f1_ f2_ f3_; subst f4_; subst f5_))
                  obtain ⟨Ao140, co140, eo140⟩ := Kd.R_slice HO261.out
                  (first | subst eo140 | (injection eo140 with f1_ f2_ f3_; have f4_ := f1_.symm; have f5_ := f3_.symm; clear f1_ f2_ f3_; subst f4_; subst f5_))
                  refine hK.out _ _ ⟨(blk_cell BK186.out 0).trans rfl, (blk_cell BK186.out 1).trans rfl, (blk_cell BK186.out 2).trans rfl, (blk_cell BK186.out 3).trans rfl, (blk_cell BK187.out 0).trans rfl, (blk_cell BK187.out 1).trans rfl, (blk_cell BK187.out 2).trans rfl, (blk_cell BK187.out 3).trans rfl⟩ (fun hHeld => ?_)
                  clear hK K
                  refine norm_ (a' := ?_) ?_ ?_
                  rotate_left
                  ·show Act.put _ (some 13) _ = _
                   simp only [Act.put, List.setIfInBounds_toArray, List.set_cons_zero, List.set_cons_succ, i64_w, i32_w]
                   rfl
                  refine one_ (i := 4) (N := some 79) #[true, true, true, true, true, true, false] rfl rfl (by kernel_rfl) (by decide) (fun K hK => ?_)
                  refine goes_ Try.func35 (by kernel_rfl) rfl #[.agg #[.slice Ao139 t253.length co139, .int .i64 t256, .int .i64 t257, .string t258], .agg #[.slice Ao140 t259.length co140, .int .i64 t262, .int .i64 t263, .string t264]] (by rfl) rfl rfl (by (try simp only [List.map_toArray, List.map_cons, List.map_nil]); first | done | rfl | (simp only [List.length_drop, List.length_take]; rfl)) ?_
                  with_reducible refine (impl_Merge.calls _ _ t253 t256 t257 t258 _ _ t259 t262 t263 t264 t265 t268 t269 t270 _ ?side1 ?side2 ?side3 ?side4 A120.out).mono ?_
                  (case side1 => repeat (first | exact (Kd.R_reads' HO255.out).2.2 | (with_reducible refine Kd.C_alloc ?_ _) | (with_reducible refine Kd.C_drewN ?_ _) | (with_reducible refine Kd.C_drew ?_)))
                  (case side2 => exact (Kd.R_reads' HO255.out).2.1)
                  (case side3 => repeat (first | exact (Kd.R_reads' HO261.out).2.2 | (with_reducible refine Kd.C_alloc ?_ _) | (with_reducible refine Kd.C_drewN ?_ _) | (with_reducible refine Kd.C_drew ?_)))
                  (case side4 => exact (Kd.R_reads' HO261.out).2.1)
                  rintro e w141 ⟨v266, rfl, ho0, hb⟩
                  refine ⟨_, rfl, ?_⟩
                  have n0_ := aM (Kd.R_elder' (aR HO_209000) (Kd.R_base ho0) hb)
                  have n1_ := aM (Kd.R_elder' (aR HO_216000) (Kd.R_base ho0) hb)
                  have n2_ := aM (Kd.R_elder' (aR HO_223000) (Kd.R_base ho0) hb)
                  have n3_ := aM (Kd.R_elder' (aR HO_230000) (Kd.R_base ho0) hb)
                  have n4_ := aM (Kd.R_elder' (aR HO255) (Kd.R_base ho0) hb)
                  have n5_ := aM (Kd.R_elder' (aR HO261) (Kd.R_base ho0) hb)
                  have n6_ := aM (Kd.R_lower (Kd.R_new' (Kd.R_new' (Kd.R_new' (Kd.R_new' (Kd.R_new' (Kd.R_new' ho0 (Kd.R_lt (aR HO_209000))) (Kd.R_lt (aR HO_216000))) (Kd.R_lt (aR HO_223000))) (Kd.R_lt (aR HO_230000))) (Kd.R_lt (aR HO255))) (Kd.R_lt (aR HO261))) (below_size (by repeat (first | (with_reducible first | exact HB.out | apply aW1 | apply aW2 | apply aW3 | refine below_set ?_ GE186.out | refine below_set ?_ GE187.out | refine below_set ?_ GE208.out | refine below_set ?_ GE215.out | refine below_set ?_ GE222.out | refine below_set ?_ GE229.out | refine below_set ?_ GE271.out) | exact HB.out))))
                  have n7_ := bb BK186 hb; have n8_ := bb BK187 hb; have n9_ := bb BK208 hb; have n10_ := bb BK215 hb; have n11_ := bb BK222 hb; have n12_ := bb BK229 hb; have n13_ := bb BK271 hb
                  have n14_ := aM (below_step (by repeat (first | (with_reducible first | exact HB.out | apply aW1 | apply aW2 | apply aW3 | refine below_set ?_ GE186.out | refine below_set ?_ GE187.out | refine below_set ?_ GE208.out | refine below_set ?_ GE215.out | refine below_set ?_ GE222.out | refine below_set ?_ GE229.out | refine below_set ?_ GE271.out) | exact HB.out)) hb)
                  clear HO_209000 HO_216000 HO_223000 HO_230000 HO255 HO261 BK186 BK187 BK208 BK215 BK222 BK229 BK271 HB; have HO_209000 := n0_; have HO_216000 := n1_; have HO_223000 := n2_; have HO_230000 := n3_; have HO255 := n4_; have HO261 := n5_; have HO267 := n6_; have BK186 := n7_; have BK187 := n8_; have BK208 := n9_; have BK215 := n10_; have BK222 := n11_; have BK229 := n12_; have BK271 := n13_; have HB := n14_; clear n0_ n1_ n2_ n3_ n4_ n5_ n6_ n7_ n8_ n9_ n10_ n11_ n12_ n13_ n14_
                  (try clear hb)
                  (try clear hb2)
                  (try clear hk)
                  (try clear hi)
                  (try clear ho0)
                  refine hK.out _ _ ⟨(blk_cell BK186.out 0).trans rfl, (blk_cell BK186.out 1).trans rfl, (blk_cell BK186.out 2).trans rfl, (blk_cell BK186.out 3).trans rfl, (blk_cell BK187.out 0).trans rfl, (blk_cell BK187.out 1).trans rfl, (blk_cell BK187.out 2).trans rfl, (blk_cell BK187.out 3).trans rfl⟩ (fun hHeld => ?_)
                  clear hK K
                  refine norm_ (a' := ?_) ?_ ?_
                  rotate_left
                  ·show Act.put _ (some 79) _ = _
                   simp only [Act.put, List.setIfInBounds_toArray, List.set_cons_zero, List.set_cons_succ, i64_w, i32_w]
                   rfl
                  exact norm_ (by simp only [putAll, Act.put, List.setIfInBounds_toArray, List.set_cons_zero, List.set_cons_succ]) (hCont (.slice Ao139 t253.length co139, .slice Ao140 t259.length co140, v266, gb271) _ ⟨hHeld, (by (with_reducible repeat (first | apply aR1 | apply aR2 | apply aR3)); exact Kd.R_mono HO255.out (fun _ hk => ⟨hk.1.2, ⟨hk.2, ⟨hk.1.1.1.1.1.2, ⟨hk.1.1.1.1.2, ⟨hk.1.1.1.2, hk.1.1.2⟩⟩⟩⟩⟩)), (by (with_reducible repeat (first | apply aR1 | apply aR2 | apply aR3)); exact Kd.R_mono HO261.out (fun _ hk => ⟨hk.1.2, ⟨hk.2, ⟨hk.1.1.1.1.1.2, ⟨hk.1.1.1.1.2, ⟨hk.1.1.1.2, hk.1.1.2⟩⟩⟩⟩⟩)), (by (with_reducible repeat (first | apply aR1 | apply aR2 | apply aR3)); exact Kd.R_mono HO267.out (fun _ hk => ⟨hk.1.2, ⟨hk.2, ⟨hk.1.1.1.1.1.2, ⟨hk.1.1.1.1.2, ⟨hk.1.1.1.2, hk.1.1.2⟩⟩⟩⟩⟩)), (by (with_reducible repeat (first | apply aR1 | apply aR2 | apply aR3)); exact Kd.R_mono HO_209000.out (fun _ hk => ⟨hk.1.1.2, ⟨hk.1.2, ⟨hk.2, ⟨hk.1.1.1.1, ⟨hk.1.1.1.2.1, hk.1.1.1.2.2⟩⟩⟩⟩⟩)), (by (with_reducible repeat (first | apply aR1 | apply aR2 | apply aR3)); exact Kd.R_mono HO_216000.out (fun _ hk => ⟨hk.1.1.2, ⟨hk.1.2, ⟨hk.2, ⟨hk.1.1.1.1, ⟨hk.1.1.1.2.1, hk.1.1.1.2.2⟩⟩⟩⟩⟩)), (by (with_reducible repeat (first | apply aR1 | apply aR2 | apply aR3)); exact Kd.R_mono HO_223000.out (fun _ hk => ⟨hk.1.1.2, ⟨hk.1.2, ⟨hk.2, ⟨hk.1.1.1.1, ⟨hk.1.1.1.2.1, hk.1.1.1.2.2⟩⟩⟩⟩⟩)), (by (with_reducible repeat (first | apply aR1 | apply aR2 | apply aR3)); exact Kd.R_mono HO_230000.out (fun _ hk => ⟨hk.1.1.2, ⟨hk.1.2, ⟨hk.2, ⟨hk.1.1.1.1, ⟨hk.1.1.1.2.1, hk.1.1.1.2.2⟩⟩⟩⟩⟩)), (aB BK186), (aB BK187), (aB BK208), (aB BK215), (aB BK222), (aB BK229), (aB BK271), GW271.out, GE271.out, NB186_271.out, NB271_186.out, NB187_271.out, NB271_187.out, NB208_271.out, NB271_208.out, NB215_271.out, NB271_215.out, NB222_271.out, NB271_222.out, NB229_271.out, NB271_229.out, (by repeat (first | (with_reducible first | exact HB.out | apply aW1 | apply aW2 | apply aW3 | refine below_set ?_ GE186.out | refine below_set ?_ GE187.out | refine below_set ?_ GE208.out | refine below_set ?_ GE215.out | refine below_set ?_ GE222.out | refine below_set ?_ GE229.out | refine below_set ?_ GE271.out) | exact HB.out))⟩)
                ·skip
                 refine box_step ?hg (N := 13) ?hd (cs := #[.slice none 0 0, .int .i64 0, .int .i64 0, .string (⟨#[]⟩ : ByteArray)]) (t := 41) ?hr ?_; (case hd => rfl); (case hg => rfl); (case hr => first | (go_simp; done) | (go_simp; rfl))
                 intro gb271 hg w137 hbox hb
                 have n0_ := rb HO_209000 hb; have n1_ := rb HO_216000 hb; have n2_ := rb HO_223000 hb; have n3_ := rb HO_230000 hb; have n4_ := rb HO255 hb; have n5_ := bb BK186 hb; have n6_ := bb BK187 hb; have n7_ := bb BK208 hb; have n8_ := bb BK215 hb; have n9_ := bb BK222 hb; have n10_ := bb BK229 hb
                 have n11_ := aM (below_step (by repeat (first | (with_reducible first | exact HB.out | apply aW1 | apply aW2 | apply aW3 | refine below_set ?_ GE186.out | refine below_set ?_ GE187.out | refine below_set ?_ GE208.out | refine below_set ?_ GE215.out | refine below_set ?_ GE222.out | refine below_set ?_ GE229.out) | exact HB.out)) hb)
                 have n12_ := aM (hbox)
                 have n13_ := aM ((by rw [hg]; exact (below_size (by repeat (first | (with_reducible first | exact HB.out | apply aW1 | apply aW2 | apply aW3 | refine below_set ?_ GE186.out | refine below_set ?_ GE187.out | refine below_set ?_ GE208.out | refine below_set ?_ GE215.out | refine below_set ?_ GE222.out | refine below_set ?_ GE229.out) | exact HB.out))) : w.heap.size ≤ gb271))
                 have n14_ := aM ((by rw [hg]; exact (below_size (by repeat (first | (with_reducible first | exact HB.out | apply aW1 | apply aW2 | apply aW3 | refine below_set ?_ GE186.out | refine below_set ?_ GE187.out | refine below_set ?_ GE208.out | refine below_set ?_ GE215.out | refine below_set ?_ GE222.out | refine below_set ?_ GE229.out) | exact HB.out))) : w.heap.size ≤ gb271))
                 have n15_ := aM ((by rw [hg]; exact Nat.ne_of_lt (blk_lt (g := gb186) (aB BK186)) : gb186 ≠ gb271))
                 have n16_ := aM ((by rw [hg]; exact Nat.ne_of_gt (blk_lt (g := gb186) (aB BK186)) : gb271 ≠ gb186))
                 have n17_ := aM ((by rw [hg]; exact Nat.ne_of_lt (blk_lt (g := gb187) (aB BK187)) : gb187 ≠ gb271))
                 have n18_ := aM ((by rw [hg]; exact Nat.ne_of_gt (blk_lt (g := gb187) (aB BK187)) : gb271 ≠ gb187))
                 have n19_ := aM ((by rw [hg]; exact Nat.ne_of_lt (blk_lt (g := gb208) (aB BK208)) : gb208 ≠ gb271))
                 have n20_ := aM ((by rw [hg]; exact Nat.ne_of_gt (blk_lt (g := gb208) (aB BK208)) : gb271 ≠ gb208))
                 have n21_ := aM ((by rw [hg]; exact Nat.ne_of_lt (blk_lt (g := gb215) (aB BK215)) : gb215 ≠ gb271))
                 have n22_ := aM ((by rw [hg]; exact Nat.ne_of_gt (blk_lt (g := gb215) (aB BK215)) : gb271 ≠ gb215))
                 have n23_ := aM ((by rw [hg]; exact Nat.ne_of_lt (blk_lt (g := gb222) (aB BK222)) : gb222 ≠ gb271))
                 have n24_ := aM ((by rw [hg]; exact Nat.ne_of_gt (blk_lt (g := gb222) (aB BK222)) : gb271 ≠ gb222))
                 have n25_ := aM ((by rw [hg]; exact Nat.ne_of_lt (blk_lt (g := gb229) (aB BK229)) : gb229 ≠ gb271))
                 have n26_ := aM ((by rw [hg]; exact Nat.ne_of_gt (blk_lt (g := gb229) (aB BK229)) : gb271 ≠ gb229))
                 clear HO_209000 HO_216000 HO_223000 HO_230000 HO255 BK186 BK187 BK208 BK215 BK222 BK229 HB; have HO_209000 := n0_; have HO_216000 := n1_; have HO_223000 := n2_; have HO_230000 := n3_; have HO255 := n4_; have BK186 := n5_; have BK187 := n6_; have BK208 := n7_; have BK215 := n8_; have BK222 := n9_; have BK229 := n10_; have HB := n11_; have BK271 := n12_; have GW271 := n13_; have GE271 := n14_; have NB186_271 := n15_; have NB271_186 := n16_; have NB187_271 := n17_; have NB271_187 := n18_; have NB208_271 := n19_; have NB271_208 := n20_; have NB215_271 := n21_; have NB271_215 := n22_; have NB222_271 := n23_; have NB271_222 := n24_; have NB229_271 := n25_; have NB271_229 := n26_; clear n0_ n1_ n2_ n3_ n4_ n5_ n6_ n7_ n8_ n9_ n10_ n11_ n12_ n13_ n14_ n15_ n16_ n17_ n18_ n19_ n20_ n21_ n22_ n23_ n24_ n25_ n26_ hb hbox hg
                 refine hK.out _ _ ⟨(blk_cell BK186.out 0).trans rfl, (blk_cell BK186.out 1).trans rfl, (blk_cell BK186.out 2).trans rfl, (blk_cell BK186.out 3).trans rfl, (blk_cell BK187.out 0).trans rfl, (blk_cell BK187.out 1).trans rfl, (blk_cell BK187.out 2).trans rfl, (blk_cell BK187.out 3).trans rfl⟩ (fun hHeld => ?_)
                 clear hK K
                 refine norm_ (a' := ?_) ?_ ?_
                 rotate_left
                 ·show Act.put _ (some 13) _ = _
                  simp only [Act.put, List.setIfInBounds_toArray, List.set_cons_zero, List.set_cons_succ, i64_w, i32_w]
                  rfl
                 refine one_ (i := 3) (N := some 78) #[true, true, true, true, false, true, false] rfl rfl (by kernel_rfl) (by decide) (fun K hK => ?_)
                 refine goes_ Try.func34 (by kernel_rfl) rfl #[.agg #[.slice A1_0 l1_0.length c1_0, .int .i64 a1_1, .int .i64 a1_2, .string a1_3]] (by rfl) rfl rfl (by (try simp only [List.map_toArray, List.map_cons, List.map_nil]); first | done | rfl | (simp only [List.length_drop, List.length_take]; rfl)) ?_
                 with_reducible refine (laws_toAlarm.calls kj34 _ _ l1_0 a1_1 a1_2 a1_3 t259 t262 t263 t264 _ ?side1 ?side2 A119.out).mono ?_
                 (case side1 => repeat (first | exact (Kd.C_below HR1_0.out HB.out) | (with_reducible refine Kd.C_alloc ?_ _) | (with_reducible refine Kd.C_drewN ?_ _) | (with_reducible refine Kd.C_drew ?_)))
                 (case side2 => exact HC1_0.out)
                 rintro e w138 ⟨v260, rfl, ho0, hb⟩
                 refine ⟨_, rfl, ?_⟩
                 have n0_ := aM (Kd.R_elder' (aR HO_209000) (Kd.R_base ho0) hb)
                 have n1_ := aM (Kd.R_elder' (aR HO_216000) (Kd.R_base ho0) hb)
                 have n2_ := aM (Kd.R_elder' (aR HO_223000) (Kd.R_base ho0) hb)
                 have n3_ := aM (Kd.R_elder' (aR HO_230000) (Kd.R_base ho0) hb)
                 have n4_ := aM (Kd.R_elder' (aR HO255) (Kd.R_base ho0) hb)
                 have n5_ := aM (Kd.R_lower (Kd.R_new' (Kd.R_new' (Kd.R_new' (Kd.R_new' (Kd.R_new' ho0 (Kd.R_lt (aR HO_209000))) (Kd.R_lt (aR HO_216000))) (Kd.R_lt (aR HO_223000))) (Kd.R_lt (aR HO_230000))) (Kd.R_lt (aR HO255))) (below_size (by repeat (first | (with_reducible first | exact HB.out | apply aW1 | apply aW2 | apply aW3 | refine below_set ?_ GE186.out | refine below_set ?_ GE187.out | refine below_set ?_ GE208.out | refine below_set ?_ GE215.out | refine below_set ?_ GE222.out | refine below_set ?_ GE229.out | refine below_set ?_ GE271.out) | exact HB.out))))
                 have n6_ := bb BK186 hb; have n7_ := bb BK187 hb; have n8_ := bb BK208 hb; have n9_ := bb BK215 hb; have n10_ := bb BK222 hb; have n11_ := bb BK229 hb; have n12_ := bb BK271 hb
                 have n13_ := aM (below_step (by repeat (first | (with_reducible first | exact HB.out | apply aW1 | apply aW2 | apply aW3 | refine below_set ?_ GE186.out | refine below_set ?_ GE187.out | refine below_set ?_ GE208.out | refine below_set ?_ GE215.out | refine below_set ?_ GE222.out | refine below_set ?_ GE229.out | refine below_set ?_ GE271.out) | exact HB.out)) hb)
                 clear HO_209000 HO_216000 HO_223000 HO_230000 HO255 BK186 BK187 BK208 BK215 BK222 BK229 BK271 HB; have HO_209000 := n0_; have HO_216000 := n1_; have HO_223000 := n2_; have HO_230000 := n3_; have HO255 := n4_; have HO261 := n5_; have BK186 := n6_; have BK187 := n7_; have BK208 := n8_; have BK215 := n9_; have BK222 := n10_; have BK229 := n11_; have BK271 := n12_; have HB := n13_; clear n0_ n1_ n2_ n3_ n4_ n5_ n6_ n7_ n8_ n9_ n10_ n11_ n12_ n13_
                 (try clear hb)
                 (try clear hb2)
                 (try clear hk)
                 (try clear hi)
                 (try clear ho0)
                 obtain ⟨Ao139, co139, eo139⟩ := Kd.R_slice HO255.out
                 (first | subst eo139 | (injection eo139 with f1_ f2_ f3_; have f4_ := f1_.symm; have f5_ := f3_.symm; clear f1_ f2_ f3_; subst f4_; subst f5_))
                 obtain ⟨Ao140, co140, eo140⟩ := Kd.R_slice HO261.out
                 (first | subst eo140 | (injection eo140 with f1_ f2_ f3_; have f4_ := f1_.symm; have f5_ := f3_.symm; clear f1_ f2_ f3_; subst f4_; subst f5_))
                 refine hK.out _ _ ⟨(blk_cell BK186.out 0).trans rfl, (blk_cell BK186.out 1).trans rfl, (blk_cell BK186.out 2).trans rfl, (blk_cell BK186.out 3).trans rfl, (blk_cell BK187.out 0).trans rfl, (blk_cell BK187.out 1).trans rfl, (blk_cell BK187.out 2).trans rfl, (blk_cell BK187.out 3).trans rfl⟩ (fun hHeld => ?_)
                 clear hK K
                 refine norm_ (a' := ?_) ?_ ?_
                 rotate_left
                 ·show Act.put _ (some 78) _ = _
                  simp only [Act.put, List.setIfInBounds_toArray, List.set_cons_zero, List.set_cons_succ, i64_w, i32_w]
                  rfl
                 refine one_ (i := 4) (N := some 79) #[true, true, true, true, true, true, false] rfl rfl (by kernel_rfl) (by decide) (fun K hK => ?_)
                 refine goes_ Try.func35 (by kernel_rfl) rfl #[.agg #[.slice Ao139 t253.length co139, .int .i64 t256, .int .i64 t257, .string t258], .agg #[.slice Ao140 t259.length co140, .int .i64 t262, .int .i64 t263, .string t264]] (by rfl) rfl rfl (by (try simp only [List.map_toArray, List.map_cons, List.map_nil]); first | done | rfl | (simp only [List.length_drop, List.length_take]; rfl)) ?_
                 with_reducible refine (impl_Merge.calls _ _ t253 t256 t257 t258 _ _ t259 t262 t263 t264 t265 t268 t269 t270 _ ?side1 ?side2 ?side3 ?side4 A120.out).mono ?_
                 (case side1 => repeat (first | exact (Kd.R_reads' HO255.out).2.2 | (with_reducible refine Kd.C_alloc ?_ _) | (with_reducible refine Kd.C_drewN ?_ _) | (with_reducible refine Kd.C_drew ?_)))
                 (case side2 => exact (Kd.R_reads' HO255.out).2.1)
                 (case side3 => repeat (first | exact (Kd.R_reads' HO261.out).2.2 | (with_reducible refine Kd.C_alloc ?_ _) | (with_reducible refine Kd.C_drewN ?_ _) | (with_reducible refine Kd.C_drew ?_)))
                 (case side4 => exact (Kd.R_reads' HO261.out).2.1)
                 rintro e w141 ⟨v266, rfl, ho0, hb⟩
                 refine ⟨_, rfl, ?_⟩
                 have n0_ := aM (Kd.R_elder' (aR HO_209000) (Kd.R_base ho0) hb)
                 have n1_ := aM (Kd.R_elder' (aR HO_216000) (Kd.R_base ho0) hb)
                 have n2_ := aM (Kd.R_elder' (aR HO_223000) (Kd.R_base ho0) hb)
                 have n3_ := aM (Kd.R_elder' (aR HO_230000) (Kd.R_base ho0) hb)
                 have n4_ := aM (Kd.R_elder' (aR HO255) (Kd.R_base ho0) hb)
                 have n5_ := aM (Kd.R_elder' (aR HO261) (Kd.R_base ho0) hb)
                 have n6_ := aM (Kd.R_lower (Kd.R_new' (Kd.R_new' (Kd.R_new' (Kd.R_new' (Kd.R_new' (Kd.R_new' ho0 (Kd.R_lt (aR HO_209000))) (Kd.R_lt (aR HO_216000))) (Kd.R_lt (aR HO_223000))) (Kd.R_lt (aR HO_230000))) (Kd.R_lt (aR HO255))) (Kd.R_lt (aR HO261))) (below_size (by repeat (first | (with_reducible first | exact HB.out | apply aW1 | apply aW2 | apply aW3 | refine below_set ?_ GE186.out | refine below_set ?_ GE187.out | refine below_set ?_ GE208.out | refine below_set ?_ GE215.out | refine below_set ?_ GE222.out | refine below_set ?_ GE229.out | refine below_set ?_ GE271.out) | exact HB.out))))
                 have n7_ := bb BK186 hb; have n8_ := bb BK187 hb; have n9_ := bb BK208 hb; have n10_ := bb BK215 hb; have n11_ := bb BK222 hb; have n12_ := bb BK229 hb; have n13_ := bb BK271 hb
                 have n14_ := aM (below_step (by repeat (first | (with_reducible first | exact HB.out | apply aW1 | apply aW2 | apply aW3 | refine below_set ?_ GE186.out | refine below_set ?_ GE187.out | refine below_set ?_ GE208.out | refine below_set ?_ GE215.out | refine below_set ?_ GE222.out | refine below_set ?_ GE229.out | refine below_set ?_ GE271.out) | exact HB.out)) hb)
                 clear HO_209000 HO_216000 HO_223000 HO_230000 HO255 HO261 BK186 BK187 BK208 BK215 BK222 BK229 BK271 HB; have HO_209000 := n0_; have HO_216000 := n1_; have HO_223000 := n2_; have HO_230000 := n3_; have HO255 := n4_; have HO261 := n5_; have HO267 := n6_; have BK186 := n7_; have BK187 := n8_; have BK208 := n9_; have BK215 := n10_; have BK222 := n11_; have BK229 := n12_; have BK271 := n13_; have HB := n14_; clear n0_ n1_ n2_ n3_ n4_ n5_ n6_ n7_ n8_ n9_ n10_ n11_ n12_ n13_ n14_
                 (try clear hb)
                 (try clear hb2)
                 (try clear hk)
                 (try clear hi)
                 (try clear ho0)
                 refine hK.out _ _ ⟨(blk_cell BK186.out 0).trans rfl, (blk_cell BK186.out 1).trans rfl, (blk_cell BK186.out 2).trans rfl, (blk_cell BK186.out 3).trans rfl, (blk_cell BK187.out 0).trans rfl, (blk_cell BK187.out 1).trans rfl, (blk_cell BK187.out 2).trans rfl, (blk_cell BK187.out 3).trans rfl⟩ (fun hHeld => ?_)
                 clear hK K
                 refine norm_ (a' := ?_) ?_ ?_
                 rotate_left
                 ·show Act.put _ (some 79) _ = _
                  simp only [Act.put, List.setIfInBounds_toArray, List.set_cons_zero, List.set_cons_succ, i64_w, i32_w]
                  rfl
                 exact norm_ (by simp only [putAll, Act.put, List.setIfInBounds_toArray, List.set_cons_zero, List.set_cons_succ]) (hCont (.slice Ao139 t253.length co139, .slice Ao140 t259.length co140, v266, gb271) _ ⟨hHeld, (by (with_reducible repeat (first | apply aR1 | apply aR2 | apply aR3)); exact Kd.R_mono HO255.out (fun _ hk => ⟨hk.1.2, ⟨hk.2, ⟨hk.1.1.1.1.1.2, ⟨hk.1.1.1.1.2, ⟨hk.1.1.1.2, hk.1.1.2⟩⟩⟩⟩⟩)), (by (with_reducible repeat (first | apply aR1 | apply aR2 | apply aR3)); exact Kd.R_mono HO261.out (fun _ hk => ⟨hk.1.2, ⟨hk.2, ⟨hk.1.1.1.1.1.2, ⟨hk.1.1.1.1.2, ⟨hk.1.1.1.2, hk.1.1.2⟩⟩⟩⟩⟩)), (by (with_reducible repeat (first | apply aR1 | apply aR2 | apply aR3)); exact Kd.R_mono HO267.out (fun _ hk => ⟨hk.1.2, ⟨hk.2, ⟨hk.1.1.1.1.1.2, ⟨hk.1.1.1.1.2, ⟨hk.1.1.1.2, hk.1.1.2⟩⟩⟩⟩⟩)), (by (with_reducible repeat (first | apply aR1 | apply aR2 | apply aR3)); exact Kd.R_mono HO_209000.out (fun _ hk => ⟨hk.1.1.2, ⟨hk.1.2, ⟨hk.2, ⟨hk.1.1.1.1, ⟨hk.1.1.1.2.1, hk.1.1.1.2.2⟩⟩⟩⟩⟩)), (by (with_reducible repeat (first | apply aR1 | apply aR2 | apply aR3)); exact Kd.R_mono HO_216000.out (fun _ hk => ⟨hk.1.1.2, ⟨hk.1.2, ⟨hk.2, ⟨hk.1.1.1.1, ⟨hk.1.1.1.2.1, hk.1.1.1.2.2⟩⟩⟩⟩⟩)), (by (with_reducible repeat (first | apply aR1 | apply aR2 | apply aR3)); exact Kd.R_mono HO_223000.out (fun _ hk => ⟨hk.1.1.2, ⟨hk.1.2, ⟨hk.2, ⟨hk.1.1.1.1, ⟨hk.1.1.1.2.1, hk.1.1.1.2.2⟩⟩⟩⟩⟩)), (by (with_reducible repeat (first | apply aR1 | apply aR2 | apply aR3)); exact Kd.R_mono HO_230000.out (fun _ hk => ⟨hk.1.1.2, ⟨hk.1.2, ⟨hk.2, ⟨hk.1.1.1.1, ⟨hk.1.1.1.2.1, hk.1.1.1.2.2⟩⟩⟩⟩⟩)), (aB BK186), (aB BK187), (aB BK208), (aB BK215), (aB BK222), (aB BK229), (aB BK271), GW271.out, GE271.out, NB186_271.out, NB271_186.out, NB187_271.out, NB271_187.out, NB208_271.out, NB271_208.out, NB215_271.out, NB271_215.out, NB222_271.out, NB271_222.out, NB229_271.out, NB271_229.out, (by repeat (first | (with_reducible first | exact HB.out | apply aW1 | apply aW2 | apply aW3 | refine below_set ?_ GE186.out | refine below_set ?_ GE187.out | refine below_set ?_ GE208.out | refine below_set ?_ GE215.out | refine below_set ?_ GE222.out | refine below_set ?_ GE229.out | refine below_set ?_ GE271.out) | exact HB.out))⟩)
               ·skip
                refine box_step ?hg (N := 13) ?hd (cs := #[.slice none 0 0, .int .i64 0, .int .i64 0, .string (⟨#[]⟩ : ByteArray)]) (t := 41) ?hr ?_; (case hd => rfl); (case hg => rfl); (case hr => first | (go_simp; done) | (go_simp; rfl))
                intro gb271 hg w136 hbox hb
                have n0_ := rb HO_209000 hb; have n1_ := rb HO_216000 hb; have n2_ := rb HO_223000 hb; have n3_ := rb HO_230000 hb; have n4_ := bb BK186 hb; have n5_ := bb BK187 hb; have n6_ := bb BK208 hb; have n7_ := bb BK215 hb; have n8_ := bb BK222 hb; have n9_ := bb BK229 hb
                have n10_ := aM (below_step (by repeat (first | (with_reducible first | exact HB.out | apply aW1 | apply aW2 | apply aW3 | refine below_set ?_ GE186.out | refine below_set ?_ GE187.out | refine below_set ?_ GE208.out | refine below_set ?_ GE215.out | refine below_set ?_ GE222.out | refine below_set ?_ GE229.out) | exact HB.out)) hb)
                have n11_ := aM (hbox)
                have n12_ := aM ((by rw [hg]; exact (below_size (by repeat (first | (with_reducible first | exact HB.out | apply aW1 | apply aW2 | apply aW3 | refine below_set ?_ GE186.out | refine below_set ?_ GE187.out | refine below_set ?_ GE208.out | refine below_set ?_ GE215.out | refine below_set ?_ GE222.out | refine below_set ?_ GE229.out) | exact HB.out))) : w.heap.size ≤ gb271))
                have n13_ := aM ((by rw [hg]; exact (below_size (by repeat (first | (with_reducible first | exact HB.out | apply aW1 | apply aW2 | apply aW3 | refine below_set ?_ GE186.out | refine below_set ?_ GE187.out | refine below_set ?_ GE208.out | refine below_set ?_ GE215.out | refine below_set ?_ GE222.out | refine below_set ?_ GE229.out) | exact HB.out))) : w.heap.size ≤ gb271))
                have n14_ := aM ((by rw [hg]; exact Nat.ne_of_lt (blk_lt (g := gb186) (aB BK186)) : gb186 ≠ gb271))
                have n15_ := aM ((by rw [hg]; exact Nat.ne_of_gt (blk_lt (g := gb186) (aB BK186)) : gb271 ≠ gb186))
                have n16_ := aM ((by rw [hg]; exact Nat.ne_of_lt (blk_lt (g := gb187) (aB BK187)) : gb187 ≠ gb271))
                have n17_ := aM ((by rw [hg]; exact Nat.ne_of_gt (blk_lt (g := gb187) (aB BK187)) : gb271 ≠ gb187))
                have n18_ := aM ((by rw [hg]; exact Nat.ne_of_lt (blk_lt (g := gb208) (aB BK208)) : gb208 ≠ gb271))
                have n19_ := aM ((by rw [hg]; exact Nat.ne_of_gt (blk_lt (g := gb208) (aB BK208)) : gb271 ≠ gb208))
                have n20_ := aM ((by rw [hg]; exact Nat.ne_of_lt (blk_lt (g := gb215) (aB BK215)) : gb215 ≠ gb271))
                have n21_ := aM ((by rw [hg]; exact Nat.ne_of_gt (blk_lt (g := gb215) (aB BK215)) : gb271 ≠ gb215))
                have n22_ := aM ((by rw [hg]; exact Nat.ne_of_lt (blk_lt (g := gb222) (aB BK222)) : gb222 ≠ gb271))
                have n23_ := aM ((by rw [hg]; exact Nat.ne_of_gt (blk_lt (g := gb222) (aB BK222)) : gb271 ≠ gb222))
                have n24_ := aM ((by rw [hg]; exact Nat.ne_of_lt (blk_lt (g := gb229) (aB BK229)) : gb229 ≠ gb271))
                have n25_ := aM ((by rw [hg]; exact Nat.ne_of_gt (blk_lt (g := gb229) (aB BK229)) : gb271 ≠ gb229))
                clear HO_209000 HO_216000 HO_223000 HO_230000 BK186 BK187 BK208 BK215 BK222 BK229 HB; have HO_209000 := n0_; have HO_216000 := n1_; have HO_223000 := n2_; have HO_230000 := n3_; have BK186 := n4_; have BK187 := n5_; have BK208 := n6_; have BK215 := n7_; have BK222 := n8_; have BK229 := n9_; have HB := n10_; have BK271 := n11_; have GW271 := n12_; have GE271 := n13_; have NB186_271 := n14_; have NB271_186 := n15_; have NB187_271 := n16_; have NB271_187 := n17_; have NB208_271 := n18_; have NB271_208 := n19_; have NB215_271 := n20_; have NB271_215 := n21_; have NB222_271 := n22_; have NB271_222 := n23_; have NB229_271 := n24_; have NB271_229 := n25_; clear n0_ n1_ n2_ n3_ n4_ n5_ n6_ n7_ n8_ n9_ n10_ n11_ n12_ n13_ n14_ n15_ n16_ n17_ n18_ n19_ n20_ n21_ n22_ n23_ n24_ n25_ hb hbox hg
                refine hK.out _ _ ⟨(blk_cell BK186.out 0).trans rfl, (blk_cell BK186.out 1).trans rfl, (blk_cell BK186.out 2).trans rfl, (blk_cell BK186.out 3).trans rfl, (blk_cell BK187.out 0).trans rfl, (blk_cell BK187.out 1).trans rfl, (blk_cell BK187.out 2).trans rfl, (blk_cell BK187.out 3).trans rfl⟩ (fun hHeld => ?_)
                clear hK K
                refine norm_ (a' := ?_) ?_ ?_
                rotate_left
                ·show Act.put _ (some 13) _ = _
                 simp only [Act.put, List.setIfInBounds_toArray, List.set_cons_zero, List.set_cons_succ, i64_w, i32_w]
                 rfl
                refine one_ (i := 1) (N := some 76) #[true, true, true, false, false, true, false] rfl rfl (by kernel_rfl) (by decide) (fun K hK => ?_)
                refine goes_ Try.func34 (by kernel_rfl) rfl #[.agg #[.slice A0_0 l0_0.length c0_0, .int .i64 a0_1, .int .i64 a0_2, .string a0_3]] (by rfl) rfl rfl (by (try simp only [List.map_toArray, List.map_cons, List.map_nil]); first | done | rfl | (simp only [List.length_drop, List.length_take]; rfl)) ?_
                with_reducible refine (laws_toAlarm.calls kj34 _ _ l0_0 a0_1 a0_2 a0_3 t253 t256 t257 t258 _ ?side1 ?side2 A118.out).mono ?_
                (case side1 => repeat (first | exact (Kd.C_below HR0_0.out HB.out) | (with_reducible refine Kd.C_alloc ?_ _) | (with_reducible refine Kd.C_drewN ?_ _) | (with_reducible refine Kd.C_drew ?_)))
                (case side2 => exact HC0_0.out)
                rintro e w137 ⟨v254, rfl, ho0, hb⟩
                refine ⟨_, rfl, ?_⟩
                have n0_ := aM (Kd.R_elder' (aR HO_209000) (Kd.R_base ho0) hb)
                have n1_ := aM (Kd.R_elder' (aR HO_216000) (Kd.R_base ho0) hb)
                have n2_ := aM (Kd.R_elder' (aR HO_223000) (Kd.R_base ho0) hb)
                have n3_ := aM (Kd.R_elder' (aR HO_230000) (Kd.R_base ho0) hb)
                have n4_ := aM (Kd.R_lower (Kd.R_new' (Kd.R_new' (Kd.R_new' (Kd.R_new' ho0 (Kd.R_lt (aR HO_209000))) (Kd.R_lt (aR HO_216000))) (Kd.R_lt (aR HO_223000))) (Kd.R_lt (aR HO_230000))) (below_size (by repeat (first | (with_reducible first | exact HB.out | apply aW1 | apply aW2 | apply aW3 | refine below_set ?_ GE186.out | refine below_set ?_ GE187.out | refine below_set ?_ GE208.out | refine below_set ?_ GE215.out | refine below_set ?_ GE222.out | refine below_set ?_ GE229.out | refine below_set ?_ GE271.out) | exact HB.out))))
                have n5_ := bb BK186 hb; have n6_ := bb BK187 hb; have n7_ := bb BK208 hb; have n8_ := bb BK215 hb; have n9_ := bb BK222 hb; have n10_ := bb BK229 hb; have n11_ := bb BK271 hb
                have n12_ := aM (below_step (by repeat (first | (with_reducible first | exact HB.out | apply aW1 | apply aW2 | apply aW3 | refine below_set ?_ GE186.out | refine below_set ?_ GE187.out | refine below_set ?_ GE208.out | refine below_set ?_ GE215.out | refine below_set ?_ GE222.out | refine below_set ?_ GE229.out | refine below_set ?_ GE271.out) | exact HB.out)) hb)
                clear HO_209000 HO_216000 HO_223000 HO_230000 BK186 BK187 BK208 BK215 BK222 BK229 BK271 HB; have HO_209000 := n0_; have HO_216000 := n1_; have HO_223000 := n2_; have HO_230000 := n3_; have HO255 := n4_; have BK186 := n5_; have BK187 := n6_; have BK208 := n7_; have BK215 := n8_; have BK222 := n9_; have BK229 := n10_; have BK271 := n11_; have HB := n12_; clear n0_ n1_ n2_ n3_ n4_ n5_ n6_ n7_ n8_ n9_ n10_ n11_ n12_
                (try clear hb)
                (try clear hb2)
                (try clear hk)
                (try clear hi)
                (try clear ho0)
                refine hK.out _ _ ⟨(blk_cell BK186.out 0).trans rfl, (blk_cell BK186.out 1).trans rfl, (blk_cell BK186.out 2).trans rfl, (blk_cell BK186.out 3).trans rfl, (blk_cell BK187.out 0).trans rfl, (blk_cell BK187.out 1).trans rfl, (blk_cell BK187.out 2).trans rfl, (blk_cell BK187.out 3).trans rfl⟩ (fun hHeld => ?_)
                clear hK K
                refine norm_ (a' := ?_) ?_ ?_
                rotate_left
                ·show Act.put _ (some 76) _ = _
                 simp only [Act.put, List.setIfInBounds_toArray, List.set_cons_zero, List.set_cons_succ, i64_w, i32_w]
                 rfl
                refine one_ (i := 3) (N := some 78) #[true, true, true, true, false, true, false] rfl rfl (by kernel_rfl) (by decide) (fun K hK => ?_)
                refine goes_ Try.func34 (by kernel_rfl) rfl #[.agg #[.slice A1_0 l1_0.length c1_0, .int .i64 a1_1, .int .i64 a1_2, .string a1_3]] (by rfl) rfl rfl (by (try simp only [List.map_toArray, List.map_cons, List.map_nil]); first | done | rfl | (simp only [List.length_drop, List.length_take]; rfl)) ?_
                with_reducible refine (laws_toAlarm.calls kj34 _ _ l1_0 a1_1 a1_2 a1_3 t259 t262 t263 t264 _ ?side1 ?side2 A119.out).mono ?_
                (case side1 => repeat (first | exact (Kd.C_below HR1_0.out HB.out) | (with_reducible refine Kd.C_alloc ?_ _) | (with_reducible refine Kd.C_drewN ?_ _) | (with_reducible refine Kd.C_drew ?_)))
                (case side2 => exact HC1_0.out)
                rintro e w138 ⟨v260, rfl, ho0, hb⟩
                refine ⟨_, rfl, ?_⟩
                have n0_ := aM (Kd.R_elder' (aR HO_209000) (Kd.R_base ho0) hb)
                have n1_ := aM (Kd.R_elder' (aR HO_216000) (Kd.R_base ho0) hb)
                have n2_ := aM (Kd.R_elder' (aR HO_223000) (Kd.R_base ho0) hb)
                have n3_ := aM (Kd.R_elder' (aR HO_230000) (Kd.R_base ho0) hb)
                have n4_ := aM (Kd.R_elder' (aR HO255) (Kd.R_base ho0) hb)
                have n5_ := aM (Kd.R_lower (Kd.R_new' (Kd.R_new' (Kd.R_new' (Kd.R_new' (Kd.R_new' ho0 (Kd.R_lt (aR HO_209000))) (Kd.R_lt (aR HO_216000))) (Kd.R_lt (aR HO_223000))) (Kd.R_lt (aR HO_230000))) (Kd.R_lt (aR HO255))) (below_size (by repeat (first | (with_reducible first | exact HB.out | apply aW1 | apply aW2 | apply aW3 | refine below_set ?_ GE186.out | refine below_set ?_ GE187.out | refine below_set ?_ GE208.out | refine below_set ?_ GE215.out | refine below_set ?_ GE222.out | refine below_set ?_ GE229.out | refine below_set ?_ GE271.out) | exact HB.out))))
                have n6_ := bb BK186 hb; have n7_ := bb BK187 hb; have n8_ := bb BK208 hb; have n9_ := bb BK215 hb; have n10_ := bb BK222 hb; have n11_ := bb BK229 hb; have n12_ := bb BK271 hb
                have n13_ := aM (below_step (by repeat (first | (with_reducible first | exact HB.out | apply aW1 | apply aW2 | apply aW3 | refine below_set ?_ GE186.out | refine below_set ?_ GE187.out | refine below_set ?_ GE208.out | refine below_set ?_ GE215.out | refine below_set ?_ GE222.out | refine below_set ?_ GE229.out | refine below_set ?_ GE271.out) | exact HB.out)) hb)
                clear HO_209000 HO_216000 HO_223000 HO_230000 HO255 BK186 BK187 BK208 BK215 BK222 BK229 BK271 HB; have HO_209000 := n0_; have HO_216000 := n1_; have HO_223000 := n2_; have HO_230000 := n3_; have HO255 := n4_; have HO261 := n5_; have BK186 := n6_; have BK187 := n7_; have BK208 := n8_; have BK215 := n9_; have BK222 := n10_; have BK229 := n11_; have BK271 := n12_; have HB := n13_; clear n0_ n1_ n2_ n3_ n4_ n5_ n6_ n7_ n8_ n9_ n10_ n11_ n12_ n13_
                (try clear hb)
                (try clear hb2)
                (try clear hk)
                (try clear hi)
                (try clear ho0)
                obtain ⟨Ao139, co139, eo139⟩ := Kd.R_slice HO255.out
                (first | subst eo139 | (injection eo139 with f1_ f2_ f3_; have f4_ := f1_.symm; have f5_ := f3_.symm; clear f1_ f2_ f3_; subst f4_; subst f5_))
                obtain ⟨Ao140, co140, eo140⟩ := Kd.R_slice HO261.out
                (first | subst eo140 | (injection eo140 with f1_ f2_ f3_; have f4_ := f1_.symm; have f5_ := f3_.symm; clear f1_ f2_ f3_; subst f4_; subst f5_))
                refine hK.out _ _ ⟨(blk_cell BK186.out 0).trans rfl, (blk_cell BK186.out 1).trans rfl, (blk_cell BK186.out 2).trans rfl, (blk_cell BK186.out 3).trans rfl, (blk_cell BK187.out 0).trans rfl, (blk_cell BK187.out 1).trans rfl, (blk_cell BK187.out 2).trans rfl, (blk_cell BK187.out 3).trans rfl⟩ (fun hHeld => ?_)
                clear hK K
                refine norm_ (a' := ?_) ?_ ?_
                rotate_left
                ·show Act.put _ (some 78) _ = _
                 simp only [Act.put, List.setIfInBounds_toArray, List.set_cons_zero, List.set_cons_succ, i64_w, i32_w]
                 rfl
                refine one_ (i := 4) (N := some 79) #[true, true, true, true, true, true, false] rfl rfl (by kernel_rfl) (by decide) (fun K hK => ?_)
                refine goes_ Try.func35 (by kernel_rfl) rfl #[.agg #[.slice Ao139 t253.length co139, .int .i64 t256, .int .i64 t257, .string t258], .agg #[.slice Ao140 t259.length co140, .int .i64 t262, .int .i64 t263, .string t264]] (by rfl) rfl rfl (by (try simp only [List.map_toArray, List.map_cons, List.map_nil]); first | done | rfl | (simp only [List.length_drop, List.length_take]; rfl)) ?_
                with_reducible refine (impl_Merge.calls _ _ t253 t256 t257 t258 _ _ t259 t262 t263 t264 t265 t268 t269 t270 _ ?side1 ?side2 ?side3 ?side4 A120.out).mono ?_
                (case side1 => repeat (first | exact (Kd.R_reads' HO255.out).2.2 | (with_reducible refine Kd.C_alloc ?_ _) | (with_reducible refine Kd.C_drewN ?_ _) | (with_reducible refine Kd.C_drew ?_)))
                (case side2 => exact (Kd.R_reads' HO255.out).2.1)
                (case side3 => repeat (first | exact (Kd.R_reads' HO261.out).2.2 | (with_reducible refine Kd.C_alloc ?_ _) | (with_reducible refine Kd.C_drewN ?_ _) | (with_reducible refine Kd.C_drew ?_)))
                (case side4 => exact (Kd.R_reads' HO261.out).2.1)
                rintro e w141 ⟨v266, rfl, ho0, hb⟩
                refine ⟨_, rfl, ?_⟩
                have n0_ := aM (Kd.R_elder' (aR HO_209000) (Kd.R_base ho0) hb)
                have n1_ := aM (Kd.R_elder' (aR HO_216000) (Kd.R_base ho0) hb)
                have n2_ := aM (Kd.R_elder' (aR HO_223000) (Kd.R_base ho0) hb)
                have n3_ := aM (Kd.R_elder' (aR HO_230000) (Kd.R_base ho0) hb)
                have n4_ := aM (Kd.R_elder' (aR HO255) (Kd.R_base ho0) hb)
                have n5_ := aM (Kd.R_elder' (aR HO261) (Kd.R_base ho0) hb)
                have n6_ := aM (Kd.R_lower (Kd.R_new' (Kd.R_new' (Kd.R_new' (Kd.R_new' (Kd.R_new' (Kd.R_new' ho0 (Kd.R_lt (aR HO_209000))) (Kd.R_lt (aR HO_216000))) (Kd.R_lt (aR HO_223000))) (Kd.R_lt (aR HO_230000))) (Kd.R_lt (aR HO255))) (Kd.R_lt (aR HO261))) (below_size (by repeat (first | (with_reducible first | exact HB.out | apply aW1 | apply aW2 | apply aW3 | refine below_set ?_ GE186.out | refine below_set ?_ GE187.out | refine below_set ?_ GE208.out | refine below_set ?_ GE215.out | refine below_set ?_ GE222.out | refine below_set ?_ GE229.out | refine below_set ?_ GE271.out) | exact HB.out))))
                have n7_ := bb BK186 hb; have n8_ := bb BK187 hb; have n9_ := bb BK208 hb; have n10_ := bb BK215 hb; have n11_ := bb BK222 hb; have n12_ := bb BK229 hb; have n13_ := bb BK271 hb
                have n14_ := aM (below_step (by repeat (first | (with_reducible first | exact HB.out | apply aW1 | apply aW2 | apply aW3 | refine below_set ?_ GE186.out | refine below_set ?_ GE187.out | refine below_set ?_ GE208.out | refine below_set ?_ GE215.out | refine below_set ?_ GE222.out | refine below_set ?_ GE229.out | refine below_set ?_ GE271.out) | exact HB.out)) hb)
                clear HO_209000 HO_216000 HO_223000 HO_230000 HO255 HO261 BK186 BK187 BK208 BK215 BK222 BK229 BK271 HB; have HO_209000 := n0_; have HO_216000 := n1_; have HO_223000 := n2_; have HO_230000 := n3_; have HO255 := n4_; have HO261 := n5_; have HO267 := n6_; have BK186 := n7_; have BK187 := n8_; have BK208 := n9_; have BK215 := n10_; have BK222 := n11_; have BK229 := n12_; have BK271 := n13_; have HB := n14_; clear n0_ n1_ n2_ n3_ n4_ n5_ n6_ n7_ n8_ n9_ n10_ n11_ n12_ n13_ n14_
                (try clear hb)
                (try clear hb2)
                (try clear hk)
                (try clear hi)
                (try clear ho0)
                refine hK.out _ _ ⟨(blk_cell BK186.out 0).trans rfl, (blk_cell BK186.out 1).trans rfl, (blk_cell BK186.out 2).trans rfl, (blk_cell BK186.out 3).trans rfl, (blk_cell BK187.out 0).trans rfl, (blk_cell BK187.out 1).trans rfl, (blk_cell BK187.out 2).trans rfl, (blk_cell BK187.out 3).trans rfl⟩ (fun hHeld => ?_)
                clear hK K
                refine norm_ (a' := ?_) ?_ ?_
                rotate_left
                ·show Act.put _ (some 79) _ = _
                 simp only [Act.put, List.setIfInBounds_toArray, List.set_cons_zero, List.set_cons_succ, i64_w, i32_w]
                 rfl
                exact norm_ (by simp only [putAll, Act.put, List.setIfInBounds_toArray, List.set_cons_zero, List.set_cons_succ]) (hCont (.slice Ao139 t253.length co139, .slice Ao140 t259.length co140, v266, gb271) _ ⟨hHeld, (by (with_reducible repeat (first | apply aR1 | apply aR2 | apply aR3)); exact Kd.R_mono HO255.out (fun _ hk => ⟨hk.1.2, ⟨hk.2, ⟨hk.1.1.1.1.1.2, ⟨hk.1.1.1.1.2, ⟨hk.1.1.1.2, hk.1.1.2⟩⟩⟩⟩⟩)), (by (with_reducible repeat (first | apply aR1 | apply aR2 | apply aR3)); exact Kd.R_mono HO261.out (fun _ hk => ⟨hk.1.2, ⟨hk.2, ⟨hk.1.1.1.1.1.2, ⟨hk.1.1.1.1.2, ⟨hk.1.1.1.2, hk.1.1.2⟩⟩⟩⟩⟩)), (by (with_reducible repeat (first | apply aR1 | apply aR2 | apply aR3)); exact Kd.R_mono HO267.out (fun _ hk => ⟨hk.1.2, ⟨hk.2, ⟨hk.1.1.1.1.1.2, ⟨hk.1.1.1.1.2, ⟨hk.1.1.1.2, hk.1.1.2⟩⟩⟩⟩⟩)), (by (with_reducible repeat (first | apply aR1 | apply aR2 | apply aR3)); exact Kd.R_mono HO_209000.out (fun _ hk => ⟨hk.1.1.2, ⟨hk.1.2, ⟨hk.2, ⟨hk.1.1.1.1, ⟨hk.1.1.1.2.1, hk.1.1.1.2.2⟩⟩⟩⟩⟩)), (by (with_reducible repeat (first | apply aR1 | apply aR2 | apply aR3)); exact Kd.R_mono HO_216000.out (fun _ hk => ⟨hk.1.1.2, ⟨hk.1.2, ⟨hk.2, ⟨hk.1.1.1.1, ⟨hk.1.1.1.2.1, hk.1.1.1.2.2⟩⟩⟩⟩⟩)), (by (with_reducible repeat (first | apply aR1 | apply aR2 | apply aR3)); exact Kd.R_mono HO_223000.out (fun _ hk => ⟨hk.1.1.2, ⟨hk.1.2, ⟨hk.2, ⟨hk.1.1.1.1, ⟨hk.1.1.1.2.1, hk.1.1.1.2.2⟩⟩⟩⟩⟩)), (by (with_reducible repeat (first | apply aR1 | apply aR2 | apply aR3)); exact Kd.R_mono HO_230000.out (fun _ hk => ⟨hk.1.1.2, ⟨hk.1.2, ⟨hk.2, ⟨hk.1.1.1.1, ⟨hk.1.1.1.2.1, hk.1.1.1.2.2⟩⟩⟩⟩⟩)), (aB BK186), (aB BK187), (aB BK208), (aB BK215), (aB BK222), (aB BK229), (aB BK271), GW271.out, GE271.out, NB186_271.out, NB271_186.out, NB187_271.out, NB271_187.out, NB208_271.out, NB271_208.out, NB215_271.out, NB271_215.out, NB222_271.out, NB271_222.out, NB229_271.out, NB271_229.out, (by repeat (first | (with_reducible first | exact HB.out | apply aW1 | apply aW2 | apply aW3 | refine below_set ?_ GE186.out | refine below_set ?_ GE187.out | refine below_set ?_ GE208.out | refine below_set ?_ GE215.out | refine below_set ?_ GE222.out | refine below_set ?_ GE229.out | refine below_set ?_ GE271.out) | exact HB.out))⟩)
              rintro ⟨v254, v260, v266, gb271⟩ w142 ⟨hS_, h0_, h1_, h2_, h3_, h4_, h5_, h6_, h7_, h8_, h9_, h10_, h11_, h12_, h13_, h14_, h15_, h16_, h17_, h18_, h19_, h20_, h21_, h22_, h23_, h24_, h25_, h26_, h27_, h28_⟩
              have n0_ : Aside0 (Kd.R k90 90 w142 w.heap.size (fun k_ => some k_ ≠ (v260 : Value).ownBlock ∧ some k_ ≠ (v266 : Value).ownBlock ∧ some k_ ≠ (.slice Ao51 t202.length co51 : Value).ownBlock ∧ some k_ ≠ (.slice Ao60 t246.length co60 : Value).ownBlock ∧ some k_ ≠ (.slice Ao69 t248.length co69 : Value).ownBlock ∧ some k_ ≠ (.slice Ao78 t223.length co78 : Value).ownBlock) v254 t253) := ⟨h0_⟩
              have n1_ : Aside0 (Kd.R k90 90 w142 w.heap.size (fun k_ => some k_ ≠ (v254 : Value).ownBlock ∧ some k_ ≠ (v266 : Value).ownBlock ∧ some k_ ≠ (.slice Ao51 t202.length co51 : Value).ownBlock ∧ some k_ ≠ (.slice Ao60 t246.length co60 : Value).ownBlock ∧ some k_ ≠ (.slice Ao69 t248.length co69 : Value).ownBlock ∧ some k_ ≠ (.slice Ao78 t223.length co78 : Value).ownBlock) v260 t259) := ⟨h1_⟩
              have n2_ : Aside0 (Kd.R k90 90 w142 w.heap.size (fun k_ => some k_ ≠ (v254 : Value).ownBlock ∧ some k_ ≠ (v260 : Value).ownBlock ∧ some k_ ≠ (.slice Ao51 t202.length co51 : Value).ownBlock ∧ some k_ ≠ (.slice Ao60 t246.length co60 : Value).ownBlock ∧ some k_ ≠ (.slice Ao69 t248.length co69 : Value).ownBlock ∧ some k_ ≠ (.slice Ao78 t223.length co78 : Value).ownBlock) v266 t265) := ⟨h2_⟩
              have n3_ : Aside0 (Kd.R k90 90 w142 w.heap.size (fun k_ => some k_ ≠ (v254 : Value).ownBlock ∧ some k_ ≠ (v260 : Value).ownBlock ∧ some k_ ≠ (v266 : Value).ownBlock ∧ some k_ ≠ (.slice Ao60 t246.length co60 : Value).ownBlock ∧ some k_ ≠ (.slice Ao69 t248.length co69 : Value).ownBlock ∧ some k_ ≠ (.slice Ao78 t223.length co78 : Value).ownBlock) (.slice Ao51 t202.length co51) t202) := ⟨h3_⟩
              have n4_ : Aside0 (Kd.R k90 90 w142 w.heap.size (fun k_ => some k_ ≠ (v254 : Value).ownBlock ∧ some k_ ≠ (v260 : Value).ownBlock ∧ some k_ ≠ (v266 : Value).ownBlock ∧ some k_ ≠ (.slice Ao51 t202.length co51 : Value).ownBlock ∧ some k_ ≠ (.slice Ao69 t248.length co69 : Value).ownBlock ∧ some k_ ≠ (.slice Ao78 t223.length co78 : Value).ownBlock) (.slice Ao60 t246.length co60) t246) := ⟨h4_⟩
              have n5_ : Aside0 (Kd.R k90 90 w142 w.heap.size (fun k_ => some k_ ≠ (v254 : Value).ownBlock ∧ some k_ ≠ (v260 : Value).ownBlock ∧ some k_ ≠ (v266 : Value).ownBlock ∧ some k_ ≠ (.slice Ao51 t202.length co51 : Value).ownBlock ∧ some k_ ≠ (.slice Ao60 t246.length co60 : Value).ownBlock ∧ some k_ ≠ (.slice Ao78 t223.length co78 : Value).ownBlock) (.slice Ao69 t248.length co69) t248) := ⟨h5_⟩
              have n6_ : Aside0 (Kd.R k90 90 w142 w.heap.size (fun k_ => some k_ ≠ (v254 : Value).ownBlock ∧ some k_ ≠ (v260 : Value).ownBlock ∧ some k_ ≠ (v266 : Value).ownBlock ∧ some k_ ≠ (.slice Ao51 t202.length co51 : Value).ownBlock ∧ some k_ ≠ (.slice Ao60 t246.length co60 : Value).ownBlock ∧ some k_ ≠ (.slice Ao69 t248.length co69 : Value).ownBlock) (.slice Ao78 t223.length co78) t251) := ⟨h6_⟩
              have n7_ : Aside0 (w142.heap[gb186]? = some (.cells #[.slice A0_0 l0_0.length c0_0, .int .i64 a0_1, .int .i64 a0_2, .string a0_3] 37 (0, 0))) := ⟨h7_⟩
              have n8_ : Aside0 (w142.heap[gb187]? = some (.cells #[.slice A1_0 l1_0.length c1_0, .int .i64 a1_1, .int .i64 a1_2, .string a1_3] 37 (0, 0))) := ⟨h8_⟩
              have n9_ : Aside0 (w142.heap[gb208]? = some (.cells #[.slice Ao51 t202.length co51, .int .i64 t205, .int .i64 t206, .string t207] 41 (0, 0))) := ⟨h9_⟩
              have n10_ : Aside0 (w142.heap[gb215]? = some (.cells #[.slice Ao60 t246.length co60, .int .i64 t212, .int .i64 t213, .string t214] 41 (0, 0))) := ⟨h10_⟩
              have n11_ : Aside0 (w142.heap[gb222]? = some (.cells #[.slice Ao69 t248.length co69, .int .i64 t219, .int .i64 t220, .string t221] 41 (0, 0))) := ⟨h11_⟩
              have n12_ : Aside0 (w142.heap[gb229]? = some (.cells #[.slice Ao78 t223.length co78, .int .i64 t226, .int .i64 t227, .string t228] 41 (0, 0))) := ⟨h12_⟩
              have n13_ : Aside0 (w142.heap[gb271]? = some (.cells #[.slice none 0 0, .int .i64 0, .int .i64 0, .string (⟨#[]⟩ : ByteArray)] 41 (0, 0))) := ⟨h13_⟩
              have n14_ : Aside0 (w.heap.size ≤ gb271) := ⟨h14_⟩
              have n15_ : Aside0 (w.heap.size ≤ gb271) := ⟨h15_⟩
              have n16_ : Aside0 (gb186 ≠ gb271) := ⟨h16_⟩
              have n17_ : Aside0 (gb271 ≠ gb186) := ⟨h17_⟩
              have n18_ : Aside0 (gb187 ≠ gb271) := ⟨h18_⟩
              have n19_ : Aside0 (gb271 ≠ gb187) := ⟨h19_⟩
              have n20_ : Aside0 (gb208 ≠ gb271) := ⟨h20_⟩
              have n21_ : Aside0 (gb271 ≠ gb208) := ⟨h21_⟩
              have n22_ : Aside0 (gb215 ≠ gb271) := ⟨h22_⟩
              have n23_ : Aside0 (gb271 ≠ gb215) := ⟨h23_⟩
              have n24_ : Aside0 (gb222 ≠ gb271) := ⟨h24_⟩
              have n25_ : Aside0 (gb271 ≠ gb222) := ⟨h25_⟩
              have n26_ : Aside0 (gb229 ≠ gb271) := ⟨h26_⟩
              have n27_ : Aside0 (gb271 ≠ gb229) := ⟨h27_⟩
              have n28_ : Aside0 (Below w.heap.size w w142) := ⟨h28_⟩
              clear HO_209000 HO_216000 HO_223000 HO_230000 BK186 BK187 BK208 BK215 BK222 BK229 HB h0_ h1_ h2_ h3_ h4_ h5_ h6_ h7_ h8_ h9_ h10_ h11_ h12_ h13_ h14_ h15_ h16_ h17_ h18_ h19_ h20_ h21_ h22_ h23_ h24_ h25_ h26_ h27_ h28_; have HO255 := n0_; have HO261 := n1_; have HO267 := n2_; have HO_209000 := n3_; have HO_216000 := n4_; have HO_223000 := n5_; have HO_230000 := n6_; have BK186 := n7_; have BK187 := n8_; have BK208 := n9_; have BK215 := n10_; have BK222 := n11_; have BK229 := n12_; have BK271 := n13_; have GW271 := n14_; have GE271 := n15_; have NB186_271 := n16_; have NB271_186 := n17_; have NB187_271 := n18_; have NB271_187 := n19_; have NB208_271 := n20_; have NB271_208 := n21_; have NB215_271 := n22_; have NB271_215 := n23_; have NB222_271 := n24_; have NB271_222 := n25_; have NB229_271 := n26_; have NB271_229 := n27_; have HB := n28_; clear n0_ n1_ n2_ n3_ n4_ n5_ n6_ n7_ n8_ n9_ n10_ n11_ n12_ n13_ n14_ n15_ n16_ n17_ n18_ n19_ n20_ n21_ n22_ n23_ n24_ n25_ n26_ n27_ n28_
              have hHeld : w142.cell? ⟨gb186, 0, none⟩ = some (.slice A0_0 l0_0.length c0_0) ∧ w142.cell? ⟨gb186, 1, none⟩ = some (.int .i64 a0_1) ∧ w142.cell? ⟨gb186, 2, none⟩ = some (.int .i64 a0_2) ∧ w142.cell? ⟨gb186, 3, none⟩ = some (.string a0_3) ∧ w142.cell? ⟨gb187, 0, none⟩ = some (.slice A1_0 l1_0.length c1_0) ∧ w142.cell? ⟨gb187, 1, none⟩ = some (.int .i64 a1_1) ∧ w142.cell? ⟨gb187, 2, none⟩ = some (.int .i64 a1_2) ∧ w142.cell? ⟨gb187, 3, none⟩ = some (.string a1_3) := hS_
              obtain ⟨Ao143, co143, eo143⟩ := Kd.R_slice HO267.out
              (first | subst eo143 | (injection eo143 with f1_ f2_ f3_; have f4_ := f1_.symm; have f5_ := f3_.symm; clear f1_ f2_ f3_; subst f4_; subst f5_))
              refine norm_ (a' := ?_) ?_ ?_
              rotate_left
              ·simp only [putAll, Act.put, List.setIfInBounds_toArray, List.set_cons_zero, List.set_cons_succ]
               rfl
              refine one_ (i := 6) (N := none) #[true, true, true, true, true, true, true] rfl rfl (by kernel_rfl) (by decide) (fun K hK => ?_)
              have hs144 : w142.cell? ⟨gb271, 0, none⟩ = some (.slice none 0 0) := (blk_cell BK271.out 0).trans rfl
              have hfs144 := blk_frozen BK271.out 0
              have hns144_0 := NB186_271.out
              have hns144_1 := NB187_271.out
              have hns144_2 := NB208_271.out
              have hns144_3 := NB215_271.out
              have hns144_4 := NB222_271.out
              have hns144_5 := NB229_271.out
              have hms144_0 := NB271_186.out
              have hms144_1 := NB271_187.out
              have hms144_2 := NB271_208.out
              have hms144_3 := NB271_215.out
              have hms144_4 := NB271_222.out
              have hms144_5 := NB271_229.out
              have hs145 : w142.cell? ⟨gb271, 1, none⟩ = some (.int .i64 0) := (blk_cell BK271.out 1).trans rfl
              have hfs145 := blk_frozen BK271.out 1
              have hns145_0 := NB186_271.out
              have hns145_1 := NB187_271.out
              have hns145_2 := NB208_271.out
              have hns145_3 := NB215_271.out
              have hns145_4 := NB222_271.out
              have hns145_5 := NB229_271.out
              have hms145_0 := NB271_186.out
              have hms145_1 := NB271_187.out
              have hms145_2 := NB271_208.out
              have hms145_3 := NB271_215.out
              have hms145_4 := NB271_222.out
              have hms145_5 := NB271_229.out
              have hs146 : w142.cell? ⟨gb271, 2, none⟩ = some (.int .i64 0) := (blk_cell BK271.out 2).trans rfl
              have hfs146 := blk_frozen BK271.out 2
              have hns146_0 := NB186_271.out
              have hns146_1 := NB187_271.out
              have hns146_2 := NB208_271.out
              have hns146_3 := NB215_271.out
              have hns146_4 := NB222_271.out
              have hns146_5 := NB229_271.out
              have hms146_0 := NB271_186.out
              have hms146_1 := NB271_187.out
              have hms146_2 := NB271_208.out
              have hms146_3 := NB271_215.out
              have hms146_4 := NB271_222.out
              have hms146_5 := NB271_229.out
              have hs147 : w142.cell? ⟨gb271, 3, none⟩ = some (.string (⟨#[]⟩ : ByteArray)) := (blk_cell BK271.out 3).trans rfl
              have hfs147 := blk_frozen BK271.out 3
              have hns147_0 := NB186_271.out
              have hns147_1 := NB187_271.out
              have hns147_2 := NB208_271.out
              have hns147_3 := NB215_271.out
              have hns147_4 := NB222_271.out
              have hns147_5 := NB229_271.out
              have hms147_0 := NB271_186.out
              have hms147_1 := NB271_187.out
              have hms147_2 := NB271_208.out
              have hms147_3 := NB271_215.out
              have hms147_4 := NB271_222.out
              have hms147_5 := NB271_229.out
              refine skip_ (w1 := ?_) (by rfl) rfl ?_ ?_
              rotate_left
              ·go_simp
               rfl
              refine hK.out _ _ ⟨((cell_far (p := ⟨gb271, _, none⟩) NB186_271.out _).trans (((cell_far (p := ⟨gb271, _, none⟩) NB186_271.out _).trans (((cell_far (p := ⟨gb271, _, none⟩) NB186_271.out _).trans (((cell_far (p := ⟨gb271, _, none⟩) NB186_271.out _).trans (hHeld.1)))))))), ((cell_far (p := ⟨gb271, _, none⟩) NB186_271.out _).trans (((cell_far (p := ⟨gb271, _, none⟩) NB186_271.out _).trans (((cell_far (p := ⟨gb271, _, none⟩) NB186_271.out _).trans (((cell_far (p := ⟨gb271, _, none⟩) NB186_271.out _).trans (hHeld.2.1)))))))), ((cell_far (p := ⟨gb271, _, none⟩) NB186_271.out _).trans (((cell_far (p := ⟨gb271, _, none⟩) NB186_271.out _).trans (((cell_far (p := ⟨gb271, _, none⟩) NB186_271.out _).trans (((cell_far (p := ⟨gb271, _, none⟩) NB186_271.out _).trans (hHeld.2.2.1)))))))), ((cell_far (p := ⟨gb271, _, none⟩) NB186_271.out _).trans (((cell_far (p := ⟨gb271, _, none⟩) NB186_271.out _).trans (((cell_far (p := ⟨gb271, _, none⟩) NB186_271.out _).trans (((cell_far (p := ⟨gb271, _, none⟩) NB186_271.out _).trans (hHeld.2.2.2.1)))))))), ((cell_far (p := ⟨gb271, _, none⟩) NB187_271.out _).trans (((cell_far (p := ⟨gb271, _, none⟩) NB187_271.out _).trans (((cell_far (p := ⟨gb271, _, none⟩) NB187_271.out _).trans (((cell_far (p := ⟨gb271, _, none⟩) NB187_271.out _).trans (hHeld.2.2.2.2.1)))))))), ((cell_far (p := ⟨gb271, _, none⟩) NB187_271.out _).trans (((cell_far (p := ⟨gb271, _, none⟩) NB187_271.out _).trans (((cell_far (p := ⟨gb271, _, none⟩) NB187_271.out _).trans (((cell_far (p := ⟨gb271, _, none⟩) NB187_271.out _).trans (hHeld.2.2.2.2.2.1)))))))), ((cell_far (p := ⟨gb271, _, none⟩) NB187_271.out _).trans (((cell_far (p := ⟨gb271, _, none⟩) NB187_271.out _).trans (((cell_far (p := ⟨gb271, _, none⟩) NB187_271.out _).trans (((cell_far (p := ⟨gb271, _, none⟩) NB187_271.out _).trans (hHeld.2.2.2.2.2.2.1)))))))), ((cell_far (p := ⟨gb271, _, none⟩) NB187_271.out _).trans (((cell_far (p := ⟨gb271, _, none⟩) NB187_271.out _).trans (((cell_far (p := ⟨gb271, _, none⟩) NB187_271.out _).trans (((cell_far (p := ⟨gb271, _, none⟩) NB187_271.out _).trans (hHeld.2.2.2.2.2.2.2))))))))⟩ (fun hHeld => ?_)
              clear hK K
              refine done_ (by kernel_rfl) ?_
              have hnb148 := NB271_186.out; have hnc148 := NB186_271.out; have hnb149 := NB271_187.out; have hnc149 := NB187_271.out; have hnb150 := NB271_208.out; have hnc150 := NB208_271.out; have hnb151 := NB271_215.out; have hnc151 := NB215_271.out; have hnb152 := NB271_222.out; have hnc152 := NB222_271.out; have hnb153 := NB271_229.out; have hnc153 := NB229_271.out
              have hcz154_0 : w142.cell? ⟨gb271, 0, none⟩ = some (.slice none 0 0) := (blk_cell BK271.out 0).trans rfl
              have hcz154_1 : w142.cell? ⟨gb271, 1, none⟩ = some (.int .i64 0) := (blk_cell BK271.out 1).trans rfl
              have hcz154_2 : w142.cell? ⟨gb271, 2, none⟩ = some (.int .i64 0) := (blk_cell BK271.out 2).trans rfl
              have hcz154_3 : w142.cell? ⟨gb271, 3, none⟩ = some (.string (⟨#[]⟩ : ByteArray)) := (blk_cell BK271.out 3).trans rfl
              have hfz154_0 := blk_frozen BK271.out 0; have hfz154_1 := blk_frozen BK271.out 1; have hfz154_2 := blk_frozen BK271.out 2; have hfz154_3 := blk_frozen BK271.out 3; have hnb155 := NB208_186.out; have hnc155 := NB186_208.out; have hnb156 := NB208_187.out; have hnc156 := NB187_208.out; have hnb157 := NB208_215.out; have hnc157 := NB215_208.out; have hnb158 := NB208_222.out; have hnc158 := NB222_208.out
              have hcz159_0 : w142.cell? ⟨gb208, 0, none⟩ = some (.slice Ao51 t202.length co51) := (blk_cell BK208.out 0).trans rfl
              have hcz159_1 : w142.cell? ⟨gb208, 1, none⟩ = some (.int .i64 t205) := (blk_cell BK208.out 1).trans rfl
              have hcz159_2 : w142.cell? ⟨gb208, 2, none⟩ = some (.int .i64 t206) := (blk_cell BK208.out 2).trans rfl
              have hcz159_3 : w142.cell? ⟨gb208, 3, none⟩ = some (.string t207) := (blk_cell BK208.out 3).trans rfl
              have hfz159_0 := blk_frozen BK208.out 0; have hfz159_1 := blk_frozen BK208.out 1; have hfz159_2 := blk_frozen BK208.out 2; have hfz159_3 := blk_frozen BK208.out 3
              try go_wp2_with (first | ((with_reducible refine gate_callee (f := 36) rfl ?_); refine goesL_ (some 82) rfl rfl Try.func36 (by kernel_rfl) rfl #[.agg #[.slice Ao143 t265.length co143, .int .i64 t268, .int .i64 t269, .string t270], .agg #[.slice Ao51 t202.length co51, .int .i64 t205, .int .i64 t206, .string t207]] rfl (by (try simp only [List.map_toArray, List.map_cons, List.map_nil]); first | done | rfl | (simp only [List.length_drop, List.length_take]; rfl)) ?_; (with_reducible refine (laws_eqAlarm.calls kj34 _ _ t265 t268 t269 t270 _ _ t202 t205 t206 t207 true _ ?side1 ?side2 ?side3 ?side4 A121.out).mono ?_); (case side1 => refine (Kd.R_reads' (e := 90) (base := w.heap.size) (ok := fun k_ => (some k_ ≠ (v254 : Value).ownBlock ∧ (some k_ ≠ (v260 : Value).ownBlock ∧ (some k_ ≠ (.slice Ao51 t202.length co51 : Value).ownBlock ∧ (some k_ ≠ (.slice Ao60 t246.length co60 : Value).ownBlock ∧ (some k_ ≠ (.slice Ao69 t248.length co69 : Value).ownBlock ∧ some k_ ≠ (.slice Ao78 t223.length co78 : Value).ownBlock)))))) (n := t265.length) (c := co143) ?_).2.2; exact (by (with_reducible repeat (first | apply aR1 | apply aR2 | apply aR3)); exact (Kd.R_mono (Kd.R_far (p := ⟨gb271, 3, none⟩) (Kd.R_far (p := ⟨gb271, 2, none⟩) (Kd.R_far (p := ⟨gb271, 1, none⟩) (Kd.R_far (p := ⟨gb271, 0, none⟩) (Kd.R_types HO267.out BK271.out (by decide)) (fun _ hk => hk.2) (.slice Ao143 t265.length co143)) (fun _ hk => hk.2) (.int .i64 t268)) (fun _ hk => hk.2) (.int .i64 t269)) (fun _ hk => hk.2) (.string t270)) (fun _ h_ => h_.1)))); (case side2 => exact (Kd.R_reads' HO267.out).2.1); (case side3 => refine (Kd.R_reads' (e := 90) (base := w.heap.size) (ok := fun k_ => (some k_ ≠ (v254 : Value).ownBlock ∧ (some k_ ≠ (v260 : Value).ownBlock ∧ (some k_ ≠ (.slice Ao143 t265.length co143 : Value).ownBlock ∧ (some k_ ≠ (.slice Ao60 t246.length co60 : Value).ownBlock ∧ (some k_ ≠ (.slice Ao69 t248.length co69 : Value).ownBlock ∧ some k_ ≠ (.slice Ao78 t223.length co78 : Value).ownBlock)))))) (n := t202.length) (c := co51) ?_).2.2; exact (by (with_reducible repeat (first | apply aR1 | apply aR2 | apply aR3)); exact (Kd.R_mono (Kd.R_far (p := ⟨gb271, 3, none⟩) (Kd.R_far (p := ⟨gb271, 2, none⟩) (Kd.R_far (p := ⟨gb271, 1, none⟩) (Kd.R_far (p := ⟨gb271, 0, none⟩) (Kd.R_types HO_209000.out BK271.out (by decide)) (fun _ hk => hk.2) (.slice Ao143 t265.length co143)) (fun _ hk => hk.2) (.int .i64 t268)) (fun _ hk => hk.2) (.int .i64 t269)) (fun _ hk => hk.2) (.string t270)) (fun _ h_ => h_.1)))); (case side4 => exact (Kd.R_reads' HO_209000.out).2.1); rintro e w160 ⟨rfl, hb⟩; refine ⟨_, rfl, ?_⟩; have n0_ := aM (Kd.R_below (by (with_reducible repeat (first | apply aR1 | apply aR2 | apply aR3)); exact (Kd.R_mono (Kd.R_far (p := ⟨gb271, 3, none⟩) (Kd.R_far (p := ⟨gb271, 2, none⟩) (Kd.R_far (p := ⟨gb271, 1, none⟩) (Kd.R_far (p := ⟨gb271, 0, none⟩) (Kd.R_types HO_209000.out BK271.out (by decide)) (fun _ hk => hk.2) (.slice Ao143 t265.length co143)) (fun _ hk => hk.2) (.int .i64 t268)) (fun _ hk => hk.2) (.int .i64 t269)) (fun _ hk => hk.2) (.string t270)) (fun _ h_ => h_.1))) hb); have n1_ := aM (Kd.R_below (by (with_reducible repeat (first | apply aR1 | apply aR2 | apply aR3)); exact (Kd.R_mono (Kd.R_far (p := ⟨gb271, 3, none⟩) (Kd.R_far (p := ⟨gb271, 2, none⟩) (Kd.R_far (p := ⟨gb271, 1, none⟩) (Kd.R_far (p := ⟨gb271, 0, none⟩) (Kd.R_types HO_216000.out BK271.out (by decide)) (fun _ hk => hk.2) (.slice Ao143 t265.length co143)) (fun _ hk => hk.2) (.int .i64 t268)) (fun _ hk => hk.2) (.int .i64 t269)) (fun _ hk => hk.2) (.string t270)) (fun _ h_ => h_.1))) hb); have n2_ := aM (Kd.R_below (by (with_reducible repeat (first | apply aR1 | apply aR2 | apply aR3)); exact (Kd.R_mono (Kd.R_far (p := ⟨gb271, 3, none⟩) (Kd.R_far (p := ⟨gb271, 2, none⟩) (Kd.R_far (p := ⟨gb271, 1, none⟩) (Kd.R_far (p := ⟨gb271, 0, none⟩) (Kd.R_types HO_223000.out BK271.out (by decide)) (fun _ hk => hk.2) (.slice Ao143 t265.length co143)) (fun _ hk => hk.2) (.int .i64 t268)) (fun _ hk => hk.2) (.int .i64 t269)) (fun _ hk => hk.2) (.string t270)) (fun _ h_ => h_.1))) hb); have n3_ := aM (Kd.R_below (by (with_reducible repeat (first | apply aR1 | apply aR2 | apply aR3)); exact (Kd.R_mono (Kd.R_far (p := ⟨gb271, 3, none⟩) (Kd.R_far (p := ⟨gb271, 2, none⟩) (Kd.R_far (p := ⟨gb271, 1, none⟩) (Kd.R_far (p := ⟨gb271, 0, none⟩) (Kd.R_types HO_230000.out BK271.out (by decide)) (fun _ hk => hk.2) (.slice Ao143 t265.length co143)) (fun _ hk => hk.2) (.int .i64 t268)) (fun _ hk => hk.2) (.int .i64 t269)) (fun _ hk => hk.2) (.string t270)) (fun _ h_ => h_.1))) hb); have n4_ := aM (Kd.R_below (by (with_reducible repeat (first | apply aR1 | apply aR2 | apply aR3)); exact (Kd.R_mono (Kd.R_far (p := ⟨gb271, 3, none⟩) (Kd.R_far (p := ⟨gb271, 2, none⟩) (Kd.R_far (p := ⟨gb271, 1, none⟩) (Kd.R_far (p := ⟨gb271, 0, none⟩) (Kd.R_types HO255.out BK271.out (by decide)) (fun _ hk => hk.2) (.slice Ao143 t265.length co143)) (fun _ hk => hk.2) (.int .i64 t268)) (fun _ hk => hk.2) (.int .i64 t269)) (fun _ hk => hk.2) (.string t270)) (fun _ h_ => h_.1))) hb); have n5_ := aM (Kd.R_below (by (with_reducible repeat (first | apply aR1 | apply aR2 | apply aR3)); exact (Kd.R_mono (Kd.R_far (p := ⟨gb271, 3, none⟩) (Kd.R_far (p := ⟨gb271, 2, none⟩) (Kd.R_far (p := ⟨gb271, 1, none⟩) (Kd.R_far (p := ⟨gb271, 0, none⟩) (Kd.R_types HO261.out BK271.out (by decide)) (fun _ hk => hk.2) (.slice Ao143 t265.length co143)) (fun _ hk => hk.2) (.int .i64 t268)) (fun _ hk => hk.2) (.int .i64 t269)) (fun _ hk => hk.2) (.string t270)) (fun _ h_ => h_.1))) hb); have n6_ := aM (Kd.R_below (by (with_reducible repeat (first | apply aR1 | apply aR2 | apply aR3)); exact (Kd.R_mono (Kd.R_far (p := ⟨gb271, 3, none⟩) (Kd.R_far (p := ⟨gb271, 2, none⟩) (Kd.R_far (p := ⟨gb271, 1, none⟩) (Kd.R_far (p := ⟨gb271, 0, none⟩) (Kd.R_types HO267.out BK271.out (by decide)) (fun _ hk => hk.2) (.slice Ao143 t265.length co143)) (fun _ hk => hk.2) (.int .i64 t268)) (fun _ hk => hk.2) (.int .i64 t269)) (fun _ hk => hk.2) (.string t270)) (fun _ h_ => h_.1))) hb); have n7_ := aM (blk_below (g := gb186) (o := .cells #[.slice A0_0 l0_0.length c0_0, .int .i64 a0_1, .int .i64 a0_2, .string a0_3] 37 (0, 0)) (by (with_reducible repeat (first | refine aB1 ?_ _ | refine aB2 ?_ | refine aB3 ?_ _)); refine blk_far ?_ NB186_271.out _; (with_reducible repeat (first | refine aB1 ?_ _ | refine aB2 ?_ | refine aB3 ?_ _)); refine blk_far ?_ NB186_271.out _; (with_reducible repeat (first | refine aB1 ?_ _ | refine aB2 ?_ | refine aB3 ?_ _)); refine blk_far ?_ NB186_271.out _; (with_reducible repeat (first | refine aB1 ?_ _ | refine aB2 ?_ | refine aB3 ?_ _)); refine blk_far ?_ NB186_271.out _; (with_reducible repeat (first | refine aB1 ?_ _ | refine aB2 ?_ | refine aB3 ?_ _)); exact BK186.out) hb); have n8_ := aM (blk_below (g := gb187) (o := .cells #[.slice A1_0 l1_0.length c1_0, .int .i64 a1_1, .int .i64 a1_2, .string a1_3] 37 (0, 0)) (by (with_reducible repeat (first | refine aB1 ?_ _ | refine aB2 ?_ | refine aB3 ?_ _)); refine blk_far ?_ NB187_271.out _; (with_reducible repeat (first | refine aB1 ?_ _ | refine aB2 ?_ | refine aB3 ?_ _)); refine blk_far ?_ NB187_271.out _; (with_reducible repeat (first | refine aB1 ?_ _ | refine aB2 ?_ | refine aB3 ?_ _)); refine blk_far ?_ NB187_271.out _; (with_reducible repeat (first | refine aB1 ?_ _ | refine aB2 ?_ | refine aB3 ?_ _)); refine blk_far ?_ NB187_271.out _; (with_reducible repeat (first | refine aB1 ?_ _ | refine aB2 ?_ | refine aB3 ?_ _)); exact BK187.out) hb); have n9_ := aM (blk_below (g := gb208) (o := .cells #[.slice Ao51 t202.length co51, .int .i64 t205, .int .i64 t206, .string t207] 41 (0, 0)) (by (with_reducible repeat (first | refine aB1 ?_ _ | refine aB2 ?_ | refine aB3 ?_ _)); refine blk_far ?_ NB208_271.out _; (with_reducible repeat (first | refine aB1 ?_ _ | refine aB2 ?_ | refine aB3 ?_ _)); refine blk_far ?_ NB208_271.out _; (with_reducible repeat (first | refine aB1 ?_ _ | refine aB2 ?_ | refine aB3 ?_ _)); refine blk_far ?_ NB208_271.out _; (with_reducible repeat (first | refine aB1 ?_ _ | refine aB2 ?_ | refine aB3 ?_ _)); refine blk_far ?_ NB208_271.out _; (with_reducible repeat (first | refine aB1 ?_ _ | refine aB2 ?_ | refine aB3 ?_ _)); exact BK208.out) hb); have n10_ := aM (blk_below (g := gb215) (o := .cells #[.slice Ao60 t246.length co60, .int .i64 t212, .int .i64 t213, .string t214] 41 (0, 0)) (by (with_reducible repeat (first | refine aB1 ?_ _ | refine aB2 ?_ | refine aB3 ?_ _)); refine blk_far ?_ NB215_271.out _; (with_reducible repeat (first | refine aB1 ?_ _ | refine aB2 ?_ | refine aB3 ?_ _)); refine blk_far ?_ NB215_271.out _; (with_reducible repeat (first | refine aB1 ?_ _ | refine aB2 ?_ | refine aB3 ?_ _)); refine blk_far ?_ NB215_271.out _; (with_reducible repeat (first | refine aB1 ?_ _ | refine aB2 ?_ | refine aB3 ?_ _)); refine blk_far ?_ NB215_271.out _; (with_reducible repeat (first | refine aB1 ?_ _ | refine aB2 ?_ | refine aB3 ?_ _)); exact BK215.out) hb); have n11_ := aM (blk_below (g := gb222) (o := .cells #[.slice Ao69 t248.length co69, .int .i64 t219, .int .i64 t220, .string t221] 41 (0, 0)) (by (with_reducible repeat (first | refine aB1 ?_ _ | refine aB2 ?_ | refine aB3 ?_ _)); refine blk_far ?_ NB222_271.out _; (with_reducible repeat (first | refine aB1 ?_ _ | refine aB2 ?_ | refine aB3 ?_ _)); refine blk_far ?_ NB222_271.out _; (with_reducible repeat (first | refine aB1 ?_ _ | refine aB2 ?_ | refine aB3 ?_ _)); refine blk_far ?_ NB222_271.out _; (with_reducible repeat (first | refine aB1 ?_ _ | refine aB2 ?_ | refine aB3 ?_ _)); refine blk_far ?_ NB222_271.out _; (with_reducible repeat (first | refine aB1 ?_ _ | refine aB2 ?_ | refine aB3 ?_ _)); exact BK222.out) hb); have n12_ := aM (blk_below (g := gb229) (o := .cells #[.slice Ao78 t223.length co78, .int .i64 t226, .int .i64 t227, .string t228] 41 (0, 0)) (by (with_reducible repeat (first | refine aB1 ?_ _ | refine aB2 ?_ | refine aB3 ?_ _)); refine blk_far ?_ NB229_271.out _; (with_reducible repeat (first | refine aB1 ?_ _ | refine aB2 ?_ | refine aB3 ?_ _)); refine blk_far ?_ NB229_271.out _; (with_reducible repeat (first | refine aB1 ?_ _ | refine aB2 ?_ | refine aB3 ?_ _)); refine blk_far ?_ NB229_271.out _; (with_reducible repeat (first | refine aB1 ?_ _ | refine aB2 ?_ | refine aB3 ?_ _)); refine blk_far ?_ NB229_271.out _; (with_reducible repeat (first | refine aB1 ?_ _ | refine aB2 ?_ | refine aB3 ?_ _)); exact BK229.out) hb); have n13_ := aM (blk_below (g := gb271) (o := .cells #[.slice Ao143 t265.length co143, .int .i64 t268, .int .i64 t269, .string t270] 41 (0, 0)) (by (with_reducible repeat (first | refine aB1 ?_ _ | refine aB2 ?_ | refine aB3 ?_ _)); refine blk_put (cs := #[.slice Ao143 t265.length co143, .int .i64 t268, .int .i64 t269, .string (⟨#[]⟩ : ByteArray)]) ?_ 3 _ rfl; (with_reducible repeat (first | refine aB1 ?_ _ | refine aB2 ?_ | refine aB3 ?_ _)); refine blk_put (cs := #[.slice Ao143 t265.length co143, .int .i64 t268, .int .i64 0, .string (⟨#[]⟩ : ByteArray)]) ?_ 2 _ rfl; (with_reducible repeat (first | refine aB1 ?_ _ | refine aB2 ?_ | refine aB3 ?_ _)); refine blk_put (cs := #[.slice Ao143 t265.length co143, .int .i64 0, .int .i64 0, .string (⟨#[]⟩ : ByteArray)]) ?_ 1 _ rfl; (with_reducible repeat (first | refine aB1 ?_ _ | refine aB2 ?_ | refine aB3 ?_ _)); refine blk_put (cs := #[.slice none 0 0, .int .i64 0, .int .i64 0, .string (⟨#[]⟩ : ByteArray)]) ?_ 0 _ rfl; (with_reducible repeat (first | refine aB1 ?_ _ | refine aB2 ?_ | refine aB3 ?_ _)); exact BK271.out) hb); have n14_ := aM (below_step (by repeat (first | (with_reducible first | exact HB.out | apply aW1 | apply aW2 | apply aW3 | refine below_set ?_ GE186.out | refine below_set ?_ GE187.out | refine below_set ?_ GE208.out | refine below_set ?_ GE215.out | refine below_set ?_ GE222.out | refine below_set ?_ GE229.out | refine below_set ?_ GE271.out) | exact HB.out)) hb); clear HO_209000 HO_216000 HO_223000 HO_230000 HO255 HO261 HO267 BK186 BK187 BK208 BK215 BK222 BK229 BK271 HB; have HO_209000 := n0_; have HO_216000 := n1_; have HO_223000 := n2_; have HO_230000 := n3_; have HO255 := n4_; have HO261 := n5_; have HO267 := n6_; have BK186 := n7_; have BK187 := n8_; have BK208 := n9_; have BK215 := n10_; have BK222 := n11_; have BK229 := n12_; have BK271 := n13_; have HB := n14_; clear n0_ n1_ n2_ n3_ n4_ n5_ n6_ n7_ n8_ n9_ n10_ n11_ n12_ n13_ n14_; (try clear hb); (try clear hb2); (try clear hk); (try clear hi); have hcz161_0 := cz4_0 BK229; have hcz161_1 := cz4_1 BK229; have hcz161_2 := cz4_2 BK229; have hcz161_3 := cz4_3 BK229; have hfz161_0 := blk_frozen BK229.out 0; have hfz161_1 := blk_frozen BK229.out 1; have hfz161_2 := blk_frozen BK229.out 2; have hfz161_3 := blk_frozen BK229.out 3) | ((with_reducible refine gate_callee (f := 38) rfl ?_); refine goesL_ (some 86) rfl rfl Try.func38 (by kernel_rfl) rfl #[.agg #[.slice Ao78 t251.length co78, .int .i64 t226, .int .i64 t227, .string t228], .int .i64 1] rfl (by (try simp only [List.map_toArray, List.map_cons, List.map_nil]); first | done | (rw [show t251.length = t223.length from (Kd.R_reads' HO_230000.out).1.symm] <;> rfl) | rfl | (simp only [List.length_drop, List.length_take]; rfl)) ?_; (with_reducible refine (laws_heldAlarm.calls kj34 _ _ t251 t226 t227 t228 1 t273 _ ?side1 ?side2 A123.out).mono ?_); (case side1 => repeat (first | exact (Kd.R_reads' HO_230000.out).2.2 | (with_reducible refine Kd.C_alloc ?_ _) | (with_reducible refine Kd.C_drewN ?_ _) | (with_reducible refine Kd.C_drew ?_))); (case side2 => rw [show t251.length = t223.length from (Kd.R_reads' HO_230000.out).1.symm]; exact (Kd.R_reads' HO_230000.out).2.1); rintro e w162 ⟨rfl, hb⟩; refine ⟨_, rfl, ?_⟩; have n0_ := rb HO_209000 hb; have n1_ := rb HO_216000 hb; have n2_ := rb HO_223000 hb; have n3_ := rb HO_230000 hb; have n4_ := rb HO255 hb; have n5_ := rb HO261 hb; have n6_ := rb HO267 hb; have n7_ := bb BK186 hb; have n8_ := bb BK187 hb; have n9_ := bb BK208 hb; have n10_ := bb BK215 hb; have n11_ := bb BK222 hb; have n12_ := bb BK229 hb; have n13_ := bb BK271 hb; have n14_ := aM (below_step (by repeat (first | (with_reducible first | exact HB.out | apply aW1 | apply aW2 | apply aW3 | refine below_set ?_ GE186.out | refine below_set ?_ GE187.out | refine below_set ?_ GE208.out | refine below_set ?_ GE215.out | refine below_set ?_ GE222.out | refine below_set ?_ GE229.out | refine below_set ?_ GE271.out) | exact HB.out)) hb); clear HO_209000 HO_216000 HO_223000 HO_230000 HO255 HO261 HO267 BK186 BK187 BK208 BK215 BK222 BK229 BK271 HB; have HO_209000 := n0_; have HO_216000 := n1_; have HO_223000 := n2_; have HO_230000 := n3_; have HO255 := n4_; have HO261 := n5_; have HO267 := n6_; have BK186 := n7_; have BK187 := n8_; have BK208 := n9_; have BK215 := n10_; have BK222 := n11_; have BK229 := n12_; have BK271 := n13_; have HB := n14_; clear n0_ n1_ n2_ n3_ n4_ n5_ n6_ n7_ n8_ n9_ n10_ n11_ n12_ n13_ n14_; (try clear hb); (try clear hb2); (try clear hk); (try clear hi)))
              go_ret
              exact ⟨by first | rfl | (simp [errW_none, errW_some] <;> rfl) | (simp [*, errW_none, errW_some] <;> rfl), by repeat (first | (with_reducible first | exact HB.out | apply aW1 | apply aW2 | apply aW3 | refine below_set ?_ GE186.out | refine below_set ?_ GE187.out | refine below_set ?_ GE208.out | refine below_set ?_ GE215.out | refine below_set ?_ GE222.out | refine below_set ?_ GE229.out | refine below_set ?_ GE271.out) | exact HB.out)⟩
             ·rw [if_neg c125] at H
              have c125b0 : (t273 == t250) = false := beq_eq_false_iff_ne.mpr c125
              have c125b1 : (t273 != t250) = true := bne_iff_ne.mpr c125
              exact absurd (Option.some.inj H) (by rw [hr_.out]; decide)
           ·replace c122 := Bool.eq_false_iff.mpr c122
            subst c122
            have H1 : (some false) = some r := by rw [if_neg (show ¬ (false = true) by decide)] at H; exact H
            clear H
            have H := H1
            clear H1
            exact absurd (Option.some.inj H) (by rw [hr_.out]; decide)
          ·rw [if_neg c117] at H
           have c117b0 : (t252 == t250) = false := beq_eq_false_iff_ne.mpr c117
           have c117b1 : (t252 != t250) = true := bne_iff_ne.mpr c117
           exact absurd (Option.some.inj H) (by rw [hr_.out]; decide)
     ·replace c32 := Bool.eq_false_iff.mpr c32
      subst c32
      have H1 : (some false) = some r := by rw [if_neg (show ¬ (false = true) by decide)] at H; exact H
      clear H
      have H := H1
      clear H1
      exact absurd (Option.some.inj H) (by rw [hr_.out]; decide)
    ·replace c29 := Bool.eq_false_iff.mpr c29
     subst c29
     have H1 : (some false) = some r := by rw [if_neg (show ¬ (false = true) by decide)] at H; exact H
     clear H
     have H := H1
     clear H1
     exact absurd (Option.some.inj H) (by rw [hr_.out]; decide)
   ·replace c26 := Bool.eq_false_iff.mpr c26
    subst c26
    have H1 : (some false) = some r := by rw [if_neg (show ¬ (false = true) by decide)] at H; exact H
    clear H
    have H := H1
    clear H1
    exact absurd (Option.some.inj H) (by rw [hr_.out]; decide)

end Go.Proofs.Ytglefglknlcojab.PFnExactMerge
