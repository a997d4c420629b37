/- What the Go functions that FnExactKeyOf reaches compute, as Lean functions, and that the machine's calls do so; no conditions. -/
import Derived.Test.YtglefglknlcojabPFnExactKeyOfx0
import Derived.Test.YtglefglknlcojabPFnExactKeyOfx1
import Derived.Test.YtglefglknlcojabPFnExactKeyOfx2
import Derived.Test.YtglefglknlcojabPFnExactKeyOfx3
import Derived.Test.YtglefglknlcojabPFnExactKeyOfx4
namespace Go.Proofs.Ytglefglknlcojab.PFnExactKeyOf
open Go.RowKit Go.Proofs.YtglefglknlcojabW.PrintWords Go.Proofs.YtglefglknlcojabW.PrintLast Go.Proofs.YtglefglknlcojabW.PrintMore
attribute [local go_sem] max2_int min2_int max_two min_two max_three min_three max_four min_four   -- for this text's walks alone
set_option linter.unusedVariables false
set_option linter.unusedSimpArgs false

/-! ### laws_FnExactKeyOf: function 9 -/
def laws_FnExactKeyOf.j0 : Nat → List ByteArray → List (S90) → List (S90) → Bool → List (S88) → Int → Int → ByteArray → Option (Bool)
 | 0, _, _, _, _, _, _, _, _ => none
 | k + 1, x1, x6, x9, x63, x180000, x180001, x180002, x180003 => if x63 = true then (some false) else ((laws_markLabelS.f k x9 1).bind fun bt224 => ((laws_heldLabelS.f k bt224.2 1).bind fun t226 => (if t226 < 0 then (some false) else (if t226 = bt224.1 then ((laws_toAlarm.f k x180000 x180001 x180002 x180003).bind fun bt227 => ((laws_toStringS.f k x1).bind fun t233 => ((impl_KeyOf.f k bt227.1 bt227.2.1 bt227.2.2.1 bt227.2.2.2 t233).bind fun t236 => ((laws_eqLabelS.f k t236 x6).bind fun t239 => (if t239 = true then ((laws_heldLabelS.f k bt224.2 1).bind fun t240 => (if t240 < 0 then (some false) else (if t240 = bt224.1 then (some true) else (some false)))) else (some false)))))) else (some false)))))
def laws_FnExactKeyOf.f (k : Nat) (l0_0 : List (S88)) (a0_1 : Int) (a0_2 : Int) (a0_3 : ByteArray) (l1 : List ByteArray) : Option (Bool) := (laws_szAlarm.f k l0_0 a0_1 a0_2 a0_3 1048576).bind fun t180 => (if t180 < 0 then (some true) else ((laws_szStringS.f k l1 t180).bind fun t181 => (if t181 < 0 then (some true) else ((laws_toAlarm.f k l0_0 a0_1 a0_2 a0_3).bind fun bt182 => ((laws_toStringS.f k l1).bind fun t188 => ((spec_KeyOf.f k bt182.1 bt182.2.1 bt182.2.2.1 bt182.2.2.2 t188).bind fun t191 => ((laws_toAlarm.f k l0_0 a0_1 a0_2 a0_3).bind fun bt194 => ((laws_toStringS.f k l1).bind fun t201 => ((impl_KeyOf.f k bt194.1 bt194.2.1 bt194.2.2.1 bt194.2.2.2 t201).bind fun t204 => ((laws_eqLabelS.f k t204 t191).bind fun t207 => (if t207 = true then ((laws_toAlarm.f k l0_0 a0_1 a0_2 a0_3).bind fun bt208 => ((laws_eqAlarm.f k bt194.1 bt194.2.1 bt194.2.2.1 bt194.2.2.2 bt208.1 bt208.2.1 bt208.2.2.1 bt208.2.2.2).bind fun t214 => (if t214 = true then ((laws_toStringS.f k l1).bind fun t215 => ((laws_eqStringS.f k t201 t215).bind fun t218 => (if t218 = true then ((laws_markAlarm.f k bt194.1 bt194.2.1 bt194.2.2.1 bt194.2.2.2 1).bind fun bt219 => ((laws_markStringS.f k t201 bt219.1).bind fun bt221 => (if bt221.1 < 0 then (laws_FnExactKeyOf.j0 k l1 t191 t204 true l0_0 a0_1 a0_2 a0_3) else ((laws_eqLabelS.f k t204 t191).bind fun t223 => (laws_FnExactKeyOf.j0 k l1 t191 t204 (!t223) l0_0 a0_1 a0_2 a0_3))))) else (some false)))) else (some false)))) else (some false))))))))))))
theorem laws_FnExactKeyOf.mono_l : ∀ k, (∀ y0 y1 y2 y3 y4 y5 y6 y7, LeO (laws_FnExactKeyOf.j0 k y0 y1 y2 y3 y4 y5 y6 y7) (laws_FnExactKeyOf.j0 (k + 1) y0 y1 y2 y3 y4 y5 y6 y7))
 | 0 => fun _ _ _ _ _ _ _ _ r h => by simp [laws_FnExactKeyOf.j0] at h
 | k + 1 => by
  have ih0 := laws_FnExactKeyOf.mono_l k
  ·intro y0 y1 y2 y3 y4 y5 y6 y7
   unfold laws_FnExactKeyOf.j0
   repeat' first
   | (with_reducible exact ih0 _ _ _ _ _ _ _ _)
   | (with_reducible exact impl_KeyOf.mono _ _ _ _ _ _)
   | (with_reducible exact laws_eqAlarm.mono _ _ _ _ _ _ _ _ _)
   | (with_reducible exact laws_eqLabelS.mono _ _ _)
   | (with_reducible exact laws_eqStringS.mono _ _ _)
   | (with_reducible exact laws_heldLabelS.mono _ _ _)
   | (with_reducible exact laws_markAlarm.mono _ _ _ _ _ _)
   | (with_reducible exact laws_markLabelS.mono _ _ _)
   | (with_reducible exact laws_markStringS.mono _ _ _)
   | (with_reducible exact laws_szAlarm.mono _ _ _ _ _ _)
   | (with_reducible exact laws_szStringS.mono _ _ _)
   | (with_reducible exact laws_toAlarm.mono _ _ _ _ _)
   | (with_reducible exact laws_toStringS.mono _ _)
   | (with_reducible exact spec_KeyOf.mono _ _ _ _ _ _)
   | (with_reducible exact LeO.refl _)
   | (with_reducible exact LeO.none _)
   | (with_reducible refine LeO.ite ?_ ?_)
   | (with_reducible refine LeO.bind ?_ (fun _ => ?_))
   | exact ih0 _ _ _ _ _ _ _ _
   | exact impl_KeyOf.mono _ _ _ _ _ _
   | exact laws_eqAlarm.mono _ _ _ _ _ _ _ _ _
   | exact laws_eqLabelS.mono _ _ _
   | exact laws_eqStringS.mono _ _ _
   | exact laws_heldLabelS.mono _ _ _
   | exact laws_markAlarm.mono _ _ _ _ _ _
   | exact laws_markLabelS.mono _ _ _
   | exact laws_markStringS.mono _ _ _
   | exact laws_szAlarm.mono _ _ _ _ _ _
   | exact laws_szStringS.mono _ _ _
   | exact laws_toAlarm.mono _ _ _ _ _
   | exact laws_toStringS.mono _ _
   | exact spec_KeyOf.mono _ _ _ _ _ _
   | exact LeO.none _
   | refine LeO.ite ?_ ?_
   | refine LeO.bind ?_ (fun _ => ?_)
theorem laws_FnExactKeyOf.mono : ∀ a0 a1 a2 a3 a4 k, LeO (laws_FnExactKeyOf.f k a0 a1 a2 a3 a4) (laws_FnExactKeyOf.f (k + 1) a0 a1 a2 a3 a4) := by
 intro a0 a1 a2 a3 a4 k
 have ih0 := laws_FnExactKeyOf.mono_l k
 unfold laws_FnExactKeyOf.f
 repeat' first
   | (with_reducible exact ih0 _ _ _ _ _ _ _ _)
   | (with_reducible exact impl_KeyOf.mono _ _ _ _ _ _)
   | (with_reducible exact laws_eqAlarm.mono _ _ _ _ _ _ _ _ _)
   | (with_reducible exact laws_eqLabelS.mono _ _ _)
   | (with_reducible exact laws_eqStringS.mono _ _ _)
   | (with_reducible exact laws_heldLabelS.mono _ _ _)
   | (with_reducible exact laws_markAlarm.mono _ _ _ _ _ _)
   | (with_reducible exact laws_markLabelS.mono _ _ _)
   | (with_reducible exact laws_markStringS.mono _ _ _)
   | (with_reducible exact laws_szAlarm.mono _ _ _ _ _ _)
   | (with_reducible exact laws_szStringS.mono _ _ _)
   | (with_reducible exact laws_toAlarm.mono _ _ _ _ _)
   | (with_reducible exact laws_toStringS.mono _ _)
   | (with_reducible exact spec_KeyOf.mono _ _ _ _ _ _)
   | (with_reducible exact LeO.refl _)
   | (with_reducible exact LeO.none _)
   | (with_reducible refine LeO.ite ?_ ?_)
   | (with_reducible refine LeO.bind ?_ (fun _ => ?_))
   | exact ih0 _ _ _ _ _ _ _ _
   | exact impl_KeyOf.mono _ _ _ _ _ _
   | exact laws_eqAlarm.mono _ _ _ _ _ _ _ _ _
   | exact laws_eqLabelS.mono _ _ _
   | exact laws_eqStringS.mono _ _ _
   | exact laws_heldLabelS.mono _ _ _
   | exact laws_markAlarm.mono _ _ _ _ _ _
   | exact laws_markLabelS.mono _ _ _
   | exact laws_markStringS.mono _ _ _
   | exact laws_szAlarm.mono _ _ _ _ _ _
   | exact laws_szStringS.mono _ _ _
   | exact laws_toAlarm.mono _ _ _ _ _
   | exact laws_toStringS.mono _ _
   | exact spec_KeyOf.mono _ _ _ _ _ _
   | exact LeO.none _
   | refine LeO.ite ?_ ?_
   | refine LeO.bind ?_ (fun _ => ?_)
set_option maxHeartbeats 8000000 in
set_option maxRecDepth 100000 in
theorem laws_FnExactKeyOf.calls (k : Nat) (A0_0 : Option Addr) (c0_0 : Nat) (l0_0 : List (S88)) (a0_1 : Int) (a0_2 : Int) (a0_3 : ByteArray) (A1 : Option Addr) (c1 : Nat) (l1 : List ByteArray) (r : Bool) (w : World) (hr0_0 : Kd.C k88 w A0_0 l0_0.length l0_0) (hc0_0 : l0_0.length ≤ c0_0) (hr1 : Kd.C Kd.string w A1 l1.length l1) (hc1 : l1.length ≤ c1) (hr_ : Aside0 (r = true)) (h : laws_FnExactKeyOf.f k l0_0 a0_1 a0_2 a0_3 l1 = some r) :
  Calls Try.prog 9 #[.agg #[.slice A0_0 l0_0.length c0_0, .int .i64 a0_1, .int .i64 a0_2, .string a0_3], .slice A1 l1.length c1] w fun e w' => e = .returned (.bool r) ∧ Below w.heap.size w w' := by
 have hu37 := Try.underlying37
 have hu41 := Try.underlying41
 have HR0_0 := aM hr0_0
 have HC0_0 := aM hc0_0
 clear hr0_0 hc0_0
 have HR1 := aM hr1
 have HC1 := aM hc1
 clear hr1 hc1
 have HB := aM (Below.refl w.heap.size w)
 have H : ((laws_szAlarm.f k l0_0 a0_1 a0_2 a0_3 1048576).bind fun t180 => (if t180 < 0 then (some true) else ((laws_szStringS.f k l1 t180).bind fun t181 => (if t181 < 0 then (some true) else ((laws_toAlarm.f k l0_0 a0_1 a0_2 a0_3).bind fun bt182 => ((laws_toStringS.f k l1).bind fun t188 => ((spec_KeyOf.f k bt182.1 bt182.2.1 bt182.2.2.1 bt182.2.2.2 t188).bind fun t191 => ((laws_toAlarm.f k l0_0 a0_1 a0_2 a0_3).bind fun bt194 => ((laws_toStringS.f k l1).bind fun t201 => ((impl_KeyOf.f k bt194.1 bt194.2.1 bt194.2.2.1 bt194.2.2.2 t201).bind fun t204 => ((laws_eqLabelS.f k t204 t191).bind fun t207 => (if t207 = true then ((laws_toAlarm.f k l0_0 a0_1 a0_2 a0_3).bind fun bt208 => ((laws_eqAlarm.f k bt194.1 bt194.2.1 bt194.2.2.1 bt194.2.2.2 bt208.1 bt208.2.1 bt208.2.2.1 bt208.2.2.2).bind fun t214 => (if t214 = true then ((laws_toStringS.f k l1).bind fun t215 => ((laws_eqStringS.f k t201 t215).bind fun t218 => (if t218 = true then ((laws_markAlarm.f k bt194.1 bt194.2.1 bt194.2.2.1 bt194.2.2.2 1).bind fun bt219 => ((laws_markStringS.f k t201 bt219.1).bind fun bt221 => (if bt221.1 < 0 then (laws_FnExactKeyOf.j0 k l1 t191 t204 true l0_0 a0_1 a0_2 a0_3) else ((laws_eqLabelS.f k t204 t191).bind fun t223 => (laws_FnExactKeyOf.j0 k l1 t191 t204 (!t223) l0_0 a0_1 a0_2 a0_3))))) else (some false)))) else (some false)))) else (some false))))))))))))) = some r := h
 clear h; replace H := Option.bind_eq_some_iff.mp H; obtain ⟨t180, A30, H⟩ := H; try dsimp only at H
 have A3 := aM A30
 clear A30
 by_cases c4 : t180 < 0
 ·rw [if_pos c4] at H; have c4b0 : decide (t180 < 0) = true := decide_eq_true c4; clear c4
  obtain rfl := Option.some.inj H
  go_enter Try.func9, Try.ntmps9
  go_wp2_with (first | ((with_reducible refine gate_dst (N := 2) rfl ?_); refine box_event ?hg (N := 2) ?hd (cs := #[.slice A0_0 l0_0.length c0_0, .int .i64 a0_1, .int .i64 a0_2, .string a0_3]) (t := 37) ?hr ?_; (case hd => rfl); (case hg => rfl); (case hr => first | (go_simp; done) | (go_simp; rfl)); intro gb179 hg w5 hbox hb; have n0_ := aM (below_step (by repeat (first | (with_reducible first | exact HB.out | apply aW1 | apply aW2 | apply aW3) | exact HB.out)) hb); have n1_ := aM (hbox); have n2_ := aM ((by rw [hg]; exact (below_size (by repeat (first | (with_reducible first | exact HB.out | apply aW1 | apply aW2 | apply aW3) | exact HB.out))) : w.heap.size ≤ gb179)); have n3_ := aM ((by rw [hg]; exact (below_size (by repeat (first | (with_reducible first | exact HB.out | apply aW1 | apply aW2 | apply aW3) | exact HB.out))) : w.heap.size ≤ gb179)); clear HB; have HB := n0_; have BK179 := n1_; have GW179 := n2_; have GE179 := n3_; clear n0_ n1_ n2_ n3_ hb hbox hg; have hcz6_0 := cz4_0 BK179; have hcz6_1 := cz4_1 BK179; have hcz6_2 := cz4_2 BK179; have hcz6_3 := cz4_3 BK179; have hfz6_0 := blk_frozen BK179.out 0; have hfz6_1 := blk_frozen BK179.out 1; have hfz6_2 := blk_frozen BK179.out 2; have hfz6_3 := blk_frozen BK179.out 3) | ((with_reducible refine gate_callee (f := 32) rfl ?_); refine goesL_ (some 16) rfl rfl Try.func32 (by kernel_rfl) rfl #[.agg #[.slice A0_0 l0_0.length c0_0, .int .i64 a0_1, .int .i64 a0_2, .string a0_3], .int .i64 1048576] rfl (by (try simp only [List.map_toArray, List.map_cons, List.map_nil]); first | done | rfl | (simp only [List.length_drop, List.length_take]; rfl)) ?_; (with_reducible refine (laws_szAlarm.calls k _ _ l0_0 a0_1 a0_2 a0_3 1048576 t180 _ ?side1 ?side2 A3.out).mono ?_); (case side1 => repeat (first | exact (Kd.C_below HR0_0.out HB.out) | (with_reducible refine Kd.C_alloc ?_ _) | (with_reducible refine Kd.C_drewN ?_ _) | (with_reducible refine Kd.C_drew ?_))); (case side2 => exact HC0_0.out); rintro e w7 ⟨rfl, hb⟩; refine ⟨_, rfl, ?_⟩; have n0_ := bb BK179 hb; have n1_ := aM (below_step (by repeat (first | (with_reducible first | exact HB.out | apply aW1 | apply aW2 | apply aW3 | refine below_set ?_ GE179.out) | exact HB.out)) hb); clear BK179 HB; have BK179 := n0_; have HB := n1_; clear n0_ n1_; (try clear hb); (try clear hb2); (try clear hk); (try clear hi)))
  go_ret
  exact ⟨by first | rfl | (simp [errW_none, errW_some] <;> rfl) | (simp [*, errW_none, errW_some] <;> rfl), by repeat (first | (with_reducible first | exact HB.out | apply aW1 | apply aW2 | apply aW3 | refine below_set ?_ GE179.out) | exact HB.out)⟩
 ·rw [if_neg c4] at H; have c4b0 : decide (t180 < 0) = false := decide_eq_false c4; clear c4; replace H := Option.bind_eq_some_iff.mp H; obtain ⟨t181, A80, H⟩ := H; try dsimp only at H
  have A8 := aM A80
  clear A80
  by_cases c9 : t181 < 0
  ·rw [if_pos c9] at H; have c9b0 : decide (t181 < 0) = true := decide_eq_true c9; clear c9
   obtain rfl := Option.some.inj H
   go_enter Try.func9, Try.ntmps9
   go_wp2_with (first | ((with_reducible refine gate_dst (N := 2) rfl ?_); refine box_event ?hg (N := 2) ?hd (cs := #[.slice A0_0 l0_0.length c0_0, .int .i64 a0_1, .int .i64 a0_2, .string a0_3]) (t := 37) ?hr ?_; (case hd => rfl); (case hg => rfl); (case hr => first | (go_simp; done) | (go_simp; rfl)); intro gb179 hg w10 hbox hb; have n0_ := aM (below_step (by repeat (first | (with_reducible first | exact HB.out | apply aW1 | apply aW2 | apply aW3) | exact HB.out)) hb); have n1_ := aM (hbox); have n2_ := aM ((by rw [hg]; exact (below_size (by repeat (first | (with_reducible first | exact HB.out | apply aW1 | apply aW2 | apply aW3) | exact HB.out))) : w.heap.size ≤ gb179)); have n3_ := aM ((by rw [hg]; exact (below_size (by repeat (first | (with_reducible first | exact HB.out | apply aW1 | apply aW2 | apply aW3) | exact HB.out))) : w.heap.size ≤ gb179)); clear HB; have HB := n0_; have BK179 := n1_; have GW179 := n2_; have GE179 := n3_; clear n0_ n1_ n2_ n3_ hb hbox hg; have hcz11_0 := cz4_0 BK179; have hcz11_1 := cz4_1 BK179; have hcz11_2 := cz4_2 BK179; have hcz11_3 := cz4_3 BK179; have hfz11_0 := blk_frozen BK179.out 0; have hfz11_1 := blk_frozen BK179.out 1; have hfz11_2 := blk_frozen BK179.out 2; have hfz11_3 := blk_frozen BK179.out 3) | ((with_reducible refine gate_callee (f := 32) rfl ?_); refine goesL_ (some 16) rfl rfl Try.func32 (by kernel_rfl) rfl #[.agg #[.slice A0_0 l0_0.length c0_0, .int .i64 a0_1, .int .i64 a0_2, .string a0_3], .int .i64 1048576] rfl (by (try simp only [List.map_toArray, List.map_cons, List.map_nil]); first | done | rfl | (simp only [List.length_drop, List.length_take]; rfl)) ?_; (with_reducible refine (laws_szAlarm.calls k _ _ l0_0 a0_1 a0_2 a0_3 1048576 t180 _ ?side1 ?side2 A3.out).mono ?_); (case side1 => repeat (first | exact (Kd.C_below HR0_0.out HB.out) | (with_reducible refine Kd.C_alloc ?_ _) | (with_reducible refine Kd.C_drewN ?_ _) | (with_reducible refine Kd.C_drew ?_))); (case side2 => exact HC0_0.out); rintro e w12 ⟨rfl, hb⟩; refine ⟨_, rfl, ?_⟩; have n0_ := bb BK179 hb; have n1_ := aM (below_step (by repeat (first | (with_reducible first | exact HB.out | apply aW1 | apply aW2 | apply aW3 | refine below_set ?_ GE179.out) | exact HB.out)) hb); clear BK179 HB; have BK179 := n0_; have HB := n1_; clear n0_ n1_; (try clear hb); (try clear hb2); (try clear hk); (try clear hi)) | ((with_reducible refine gate_callee (f := 47) rfl ?_); refine goesL_ (some 21) rfl rfl Try.func47 (by kernel_rfl) rfl #[.slice A1 l1.length c1, .int .i64 t180] rfl (by (try simp only [List.map_toArray, List.map_cons, List.map_nil]); first | done | rfl | (simp only [List.length_drop, List.length_take]; rfl)) ?_; (with_reducible refine (laws_szStringS.calls k _ _ l1 t180 t181 _ ?side1 ?side2 A8.out).mono ?_); (case side1 => repeat (first | exact (Kd.C_below HR1.out HB.out) | (with_reducible refine Kd.C_alloc ?_ _) | (with_reducible refine Kd.C_drewN ?_ _) | (with_reducible refine Kd.C_drew ?_))); (case side2 => exact HC1.out); rintro e w' ⟨rfl, ⟨nd, rfl⟩⟩; refine ⟨_, rfl, ?_⟩))
   go_ret
   exact ⟨by first | rfl | (simp [errW_none, errW_some] <;> rfl) | (simp [*, errW_none, errW_some] <;> rfl), by repeat (first | (with_reducible first | exact HB.out | apply aW1 | apply aW2 | apply aW3 | refine below_set ?_ GE179.out) | exact HB.out)⟩
  ·rw [if_neg c9] at H; have c9b0 : decide (t181 < 0) = false := decide_eq_false c9; clear c9; replace H := Option.bind_eq_some_iff.mp H
   obtain ⟨⟨t182, t185, t186, t187⟩, A130, H⟩ := H
   try dsimp only at H
   have A13 := aM A130
   clear A130; replace H := Option.bind_eq_some_iff.mp H; obtain ⟨t188, A140, H⟩ := H; try dsimp only at H
   have A14 := aM A140
   clear A140; replace H := Option.bind_eq_some_iff.mp H; obtain ⟨t191, A150, H⟩ := H; try dsimp only at H
   have A15 := aM A150
   clear A150; replace H := Option.bind_eq_some_iff.mp H
   obtain ⟨⟨t194, t197, t198, t199⟩, A160, H⟩ := H
   try dsimp only at H
   have A16 := aM A160
   clear A160; replace H := Option.bind_eq_some_iff.mp H; obtain ⟨t201, A170, H⟩ := H; try dsimp only at H
   have A17 := aM A170
   clear A170; replace H := Option.bind_eq_some_iff.mp H; obtain ⟨t204, A180, H⟩ := H; try dsimp only at H
   have A18 := aM A180
   clear A180; replace H := Option.bind_eq_some_iff.mp H; obtain ⟨t207, A190, H⟩ := H; try dsimp only at H
   have A19 := aM A190
   clear A190
   by_cases c20 : t207 = true
   ·subst c20
    have H1 : ((laws_toAlarm.f k l0_0 a0_1 a0_2 a0_3).bind fun bt208 => ((laws_eqAlarm.f k t194 t197 t198 t199 bt208.1 bt208.2.1 bt208.2.2.1 bt208.2.2.2).bind fun t214 => (if t214 = true then ((laws_toStringS.f k l1).bind fun t215 => ((laws_eqStringS.f k t201 t215).bind fun t218 => (if t218 = true then ((laws_markAlarm.f k t194 t197 t198 t199 1).bind fun bt219 => ((laws_markStringS.f k t201 bt219.1).bind fun bt221 => (if bt221.1 < 0 then (laws_FnExactKeyOf.j0 k l1 t191 t204 true l0_0 a0_1 a0_2 a0_3) else ((laws_eqLabelS.f k t204 t191).bind fun t223 => (laws_FnExactKeyOf.j0 k l1 t191 t204 (!t223) l0_0 a0_1 a0_2 a0_3))))) else (some false)))) else (some false)))) = some r := by rw [if_pos rfl] at H; exact H
    clear H
    have H := H1
    clear H1; replace H := Option.bind_eq_some_iff.mp H
    obtain ⟨⟨t208, t211, t212, t213⟩, A210, H⟩ := H
    try dsimp only at H
    have A21 := aM A210
    clear A210; replace H := Option.bind_eq_some_iff.mp H; obtain ⟨t214, A220, H⟩ := H; try dsimp only at H
    have A22 := aM A220
    clear A220
    by_cases c23 : t214 = true
    ·subst c23
     have H1 : ((laws_toStringS.f k l1).bind fun t215 => ((laws_eqStringS.f k t201 t215).bind fun t218 => (if t218 = true then ((laws_markAlarm.f k t194 t197 t198 t199 1).bind fun bt219 => ((laws_markStringS.f k t201 bt219.1).bind fun bt221 => (if bt221.1 < 0 then (laws_FnExactKeyOf.j0 k l1 t191 t204 true l0_0 a0_1 a0_2 a0_3) else ((laws_eqLabelS.f k t204 t191).bind fun t223 => (laws_FnExactKeyOf.j0 k l1 t191 t204 (!t223) l0_0 a0_1 a0_2 a0_3))))) else (some false)))) = some r := by rw [if_pos rfl] at H; exact H
     clear H
     have H := H1
     clear H1; replace H := Option.bind_eq_some_iff.mp H; obtain ⟨t215, A240, H⟩ := H; try dsimp only at H
     have A24 := aM A240
     clear A240; replace H := Option.bind_eq_some_iff.mp H; obtain ⟨t218, A250, H⟩ := H; try dsimp only at H
     have A25 := aM A250
     clear A250
     by_cases c26 : t218 = true
     ·subst c26
      have H1 : ((laws_markAlarm.f k t194 t197 t198 t199 1).bind fun bt219 => ((laws_markStringS.f k t201 bt219.1).bind fun bt221 => (if bt221.1 < 0 then (laws_FnExactKeyOf.j0 k l1 t191 t204 true l0_0 a0_1 a0_2 a0_3) else ((laws_eqLabelS.f k t204 t191).bind fun t223 => (laws_FnExactKeyOf.j0 k l1 t191 t204 (!t223) l0_0 a0_1 a0_2 a0_3))))) = some r := by rw [if_pos rfl] at H; exact H
      clear H
      have H := H1
      clear H1; replace H := Option.bind_eq_some_iff.mp H
      obtain ⟨⟨t219, t220⟩, A270, H⟩ := H
      try dsimp only at H
      have A27 := aM A270
      clear A270; replace H := Option.bind_eq_some_iff.mp H
      obtain ⟨⟨t221, t222⟩, A280, H⟩ := H
      try dsimp only at H
      have A28 := aM A280
      clear A280
      have HC29 := aM H
      clear H
      go_enter Try.func9, Try.ntmps9
      try go_wp2_with (first | ((with_reducible refine gate_dst (N := 2) rfl ?_); refine box_event ?hg (N := 2) ?hd (cs := #[.slice A0_0 l0_0.length c0_0, .int .i64 a0_1, .int .i64 a0_2, .string a0_3]) (t := 37) ?hr ?_; (case hd => rfl); (case hg => rfl); (case hr => first | (go_simp; done) | (go_simp; rfl)); intro gb179 hg w30 hbox hb; have n0_ := aM (below_step (by repeat (first | (with_reducible first | exact HB.out | apply aW1 | apply aW2 | apply aW3) | exact HB.out)) hb); have n1_ := aM (hbox); have n2_ := aM ((by rw [hg]; exact (below_size (by repeat (first | (with_reducible first | exact HB.out | apply aW1 | apply aW2 | apply aW3) | exact HB.out))) : w.heap.size ≤ gb179)); have n3_ := aM ((by rw [hg]; exact (below_size (by repeat (first | (with_reducible first | exact HB.out | apply aW1 | apply aW2 | apply aW3) | exact HB.out))) : w.heap.size ≤ gb179)); clear HB; have HB := n0_; have BK179 := n1_; have GW179 := n2_; have GE179 := n3_; clear n0_ n1_ n2_ n3_ hb hbox hg; have hcz31_0 := cz4_0 BK179; have hcz31_1 := cz4_1 BK179; have hcz31_2 := cz4_2 BK179; have hcz31_3 := cz4_3 BK179; have hfz31_0 := blk_frozen BK179.out 0; have hfz31_1 := blk_frozen BK179.out 1; have hfz31_2 := blk_frozen BK179.out 2; have hfz31_3 := blk_frozen BK179.out 3) | ((with_reducible refine gate_callee (f := 32) rfl ?_); refine goesL_ (some 16) rfl rfl Try.func32 (by kernel_rfl) rfl #[.agg #[.slice A0_0 l0_0.length c0_0, .int .i64 a0_1, .int .i64 a0_2, .string a0_3], .int .i64 1048576] rfl (by (try simp only [List.map_toArray, List.map_cons, List.map_nil]); first | done | rfl | (simp only [List.length_drop, List.length_take]; rfl)) ?_; (with_reducible refine (laws_szAlarm.calls k _ _ l0_0 a0_1 a0_2 a0_3 1048576 t180 _ ?side1 ?side2 A3.out).mono ?_); (case side1 => repeat (first | exact (Kd.C_below HR0_0.out HB.out) | (with_reducible refine Kd.C_alloc ?_ _) | (with_reducible refine Kd.C_drewN ?_ _) | (with_reducible refine Kd.C_drew ?_))); (case side2 => exact HC0_0.out); rintro e w32 ⟨rfl, hb⟩; refine ⟨_, rfl, ?_⟩; have n0_ := bb BK179 hb; have n1_ := aM (below_step (by repeat (first | (with_reducible first | exact HB.out | apply aW1 | apply aW2 | apply aW3 | refine below_set ?_ GE179.out) | exact HB.out)) hb); clear BK179 HB; have BK179 := n0_; have HB := n1_; clear n0_ n1_; (try clear hb); (try clear hb2); (try clear hk); (try clear hi)) | ((with_reducible refine gate_callee (f := 47) rfl ?_); refine goesL_ (some 21) rfl rfl Try.func47 (by kernel_rfl) rfl #[.slice A1 l1.length c1, .int .i64 t180] rfl (by (try simp only [List.map_toArray, List.map_cons, List.map_nil]); first | done | rfl | (simp only [List.length_drop, List.length_take]; rfl)) ?_; (with_reducible refine (laws_szStringS.calls k _ _ l1 t180 t181 _ ?side1 ?side2 A8.out).mono ?_); (case side1 => repeat (first | exact (Kd.C_below HR1.out HB.out) | (with_reducible refine Kd.C_alloc ?_ _) | (with_reducible refine Kd.C_drewN ?_ _) | (with_reducible refine Kd.C_drew ?_))); (case side2 => exact HC1.out); rintro e w' ⟨rfl, ⟨nd, rfl⟩⟩; refine ⟨_, rfl, ?_⟩; (try (rw [drewN_self w32]; generalize hq_ : World.drewN w32 _ = w32; have n0_ : Aside0 (w32.heap[gb179]? = some (.cells #[.slice A0_0 l0_0.length c0_0, .int .i64 a0_1, .int .i64 a0_2, .string a0_3] 37 (0, 0))) := ⟨by rw [← hq_]; exact (aB BK179)⟩; have n1_ : Aside0 (Below w.heap.size w w32) := ⟨by rw [← hq_]; exact (by repeat (first | (with_reducible first | exact HB.out | apply aW1 | apply aW2 | apply aW3 | refine below_set ?_ GE179.out) | exact HB.out))⟩; clear BK179 HB hq_; have BK179 := n0_; have HB := n1_; clear n0_ n1_)); have hcz33_0 := cz4_0 BK179; have hcz33_1 := cz4_1 BK179; have hcz33_2 := cz4_2 BK179; have hcz33_3 := cz4_3 BK179; have hfz33_0 := blk_frozen BK179.out 0; have hfz33_1 := blk_frozen BK179.out 1; have hfz33_2 := blk_frozen BK179.out 2; have hfz33_3 := blk_frozen BK179.out 3) | ((with_reducible refine gate_callee (f := 34) rfl ?_); refine goesL_ (some 25) rfl rfl Try.func34 (by kernel_rfl) rfl #[.agg #[.slice A0_0 l0_0.length c0_0, .int .i64 a0_1, .int .i64 a0_2, .string a0_3]] rfl (by (try simp only [List.map_toArray, List.map_cons, List.map_nil]); first | done | rfl | (simp only [List.length_drop, List.length_take]; rfl)) ?_; (with_reducible refine (laws_toAlarm.calls k _ _ l0_0 a0_1 a0_2 a0_3 t182 t185 t186 t187 _ ?side1 ?side2 A13.out).mono ?_); (case side1 => repeat (first | exact (Kd.C_below HR0_0.out HB.out) | (with_reducible refine Kd.C_alloc ?_ _) | (with_reducible refine Kd.C_drewN ?_ _) | (with_reducible refine Kd.C_drew ?_))); (case side2 => exact HC0_0.out); rintro e w34 ⟨v183, rfl, ho0, hb⟩; refine ⟨_, rfl, ?_⟩; have n0_ := aM (Kd.R_lower ho0 (below_size (by repeat (first | (with_reducible first | exact HB.out | apply aW1 | apply aW2 | apply aW3 | refine below_set ?_ GE179.out) | exact HB.out)))); have n1_ := bb BK179 hb; have n2_ := aM (below_step (by repeat (first | (with_reducible first | exact HB.out | apply aW1 | apply aW2 | apply aW3 | refine below_set ?_ GE179.out) | exact HB.out)) hb); clear BK179 HB; have HO184 := n0_; have BK179 := n1_; have HB := n2_; clear n0_ n1_ n2_; (try clear hb); (try clear hb2); (try clear hk); (try clear hi); (try clear ho0)) | ((with_reducible refine gate_callee (f := 49) rfl ?_); refine goesL_ (some 27) rfl rfl Try.func49 (by kernel_rfl) rfl #[.slice A1 l1.length c1] rfl (by (try simp only [List.map_toArray, List.map_cons, List.map_nil]); first | done | rfl | (simp only [List.length_drop, List.length_take]; rfl)) ?_; (with_reducible refine (laws_toStringS.calls k _ _ l1 t188 _ ?side1 ?side2 A14.out).mono ?_); (case side1 => repeat (first | exact (Kd.C_below HR1.out HB.out) | (with_reducible refine Kd.C_alloc ?_ _) | (with_reducible refine Kd.C_drewN ?_ _) | (with_reducible refine Kd.C_drew ?_))); (case side2 => exact HC1.out); rintro e w35 ⟨v189, rfl, ho0, hb⟩; refine ⟨_, rfl, ?_⟩; have n0_ := rb HO184 hb; have n1_ := aM (Kd.R_lower ho0 (below_size (by repeat (first | (with_reducible first | exact HB.out | apply aW1 | apply aW2 | apply aW3 | refine below_set ?_ GE179.out) | exact HB.out)))); have n2_ := bb BK179 hb; have n3_ := aM (below_step (by repeat (first | (with_reducible first | exact HB.out | apply aW1 | apply aW2 | apply aW3 | refine below_set ?_ GE179.out) | exact HB.out)) hb); clear HO184 BK179 HB; have HO184 := n0_; have HO190 := n1_; have BK179 := n2_; have HB := n3_; clear n0_ n1_ n2_ n3_; (try clear hb); (try clear hb2); (try clear hk); (try clear hi); (try clear ho0); obtain ⟨Ao36, co36, eo36⟩ := Kd.R_slice HO184.out; subst eo36; obtain ⟨Ao37, co37, eo37⟩ := Kd.R_slice HO190.out; subst eo37) | ((with_reducible refine gate_callee (f := 61) rfl ?_); refine goesL_ (some 28) rfl rfl Try.func61 (by kernel_rfl) rfl #[.agg #[.slice Ao36 t182.length co36, .int .i64 t185, .int .i64 t186, .string t187], .slice Ao37 t188.length co37] rfl (by (try simp only [List.map_toArray, List.map_cons, List.map_nil]); first | done | rfl | (simp only [List.length_drop, List.length_take]; rfl)) ?_; (with_reducible refine (spec_KeyOf.calls k _ _ t182 t185 t186 t187 _ _ t188 t191 _ ?side1 ?side2 ?side3 ?side4 A15.out).mono ?_); (case side1 => repeat (first | exact (Kd.R_reads' HO184.out).2.2 | (with_reducible refine Kd.C_alloc ?_ _) | (with_reducible refine Kd.C_drewN ?_ _) | (with_reducible refine Kd.C_drew ?_))); (case side2 => exact (Kd.R_reads' HO184.out).2.1); (case side3 => repeat (first | exact (Kd.R_reads' HO190.out).2.2 | (with_reducible refine Kd.C_alloc ?_ _) | (with_reducible refine Kd.C_drewN ?_ _) | (with_reducible refine Kd.C_drew ?_))); (case side4 => exact (Kd.R_reads' HO190.out).2.1); rintro e w38 ⟨v192, rfl, ho0, hb⟩; refine ⟨_, rfl, ?_⟩; have n0_ := aM (Kd.R_elder' (aR HO184) (Kd.R_base ho0) hb); have n1_ := rb HO190 hb; have n2_ := aM (Kd.R_lower (Kd.R_new' ho0 (Kd.R_lt (aR HO184))) (below_size (by repeat (first | (with_reducible first | exact HB.out | apply aW1 | apply aW2 | apply aW3 | refine below_set ?_ GE179.out) | exact HB.out)))); have n3_ := bb BK179 hb; have n4_ := aM (below_step (by repeat (first | (with_reducible first | exact HB.out | apply aW1 | apply aW2 | apply aW3 | refine below_set ?_ GE179.out) | exact HB.out)) hb); clear HO184 HO190 BK179 HB; have HO184 := n0_; have HO190 := n1_; have HO193 := n2_; have BK179 := n3_; have HB := n4_; clear n0_ n1_ n2_ n3_ n4_; (try clear hb); (try clear hb2); (try clear hk); (try clear hi); (try clear ho0); have hcz39_0 := cz4_0 BK179; have hcz39_1 := cz4_1 BK179; have hcz39_2 := cz4_2 BK179; have hcz39_3 := cz4_3 BK179; have hfz39_0 := blk_frozen BK179.out 0; have hfz39_1 := blk_frozen BK179.out 1; have hfz39_2 := blk_frozen BK179.out 2; have hfz39_3 := blk_frozen BK179.out 3) | ((with_reducible refine gate_callee (f := 34) rfl ?_); refine goesL_ (some 30) rfl rfl Try.func34 (by kernel_rfl) rfl #[.agg #[.slice A0_0 l0_0.length c0_0, .int .i64 a0_1, .int .i64 a0_2, .string a0_3]] rfl (by (try simp only [List.map_toArray, List.map_cons, List.map_nil]); first | done | rfl | (simp only [List.length_drop, List.length_take]; rfl)) ?_; (with_reducible refine (laws_toAlarm.calls k _ _ l0_0 a0_1 a0_2 a0_3 t194 t197 t198 t199 _ ?side1 ?side2 A16.out).mono ?_); (case side1 => repeat (first | exact (Kd.C_below HR0_0.out HB.out) | (with_reducible refine Kd.C_alloc ?_ _) | (with_reducible refine Kd.C_drewN ?_ _) | (with_reducible refine Kd.C_drew ?_))); (case side2 => exact HC0_0.out); rintro e w40 ⟨v195, rfl, ho0, hb⟩; refine ⟨_, rfl, ?_⟩; have n0_ := aM (Kd.R_elder' (aR HO184) (Kd.R_base ho0) hb); have n1_ := rb HO190 hb; have n2_ := aM (Kd.R_elder' (aR HO193) (Kd.R_base ho0) hb); have n3_ := aM (Kd.R_lower (Kd.R_new' (Kd.R_new' ho0 (Kd.R_lt (aR HO184))) (Kd.R_lt (aR HO193))) (below_size (by repeat (first | (with_reducible first | exact HB.out | apply aW1 | apply aW2 | apply aW3 | refine below_set ?_ GE179.out) | exact HB.out)))); have n4_ := bb BK179 hb; have n5_ := aM (below_step (by repeat (first | (with_reducible first | exact HB.out | apply aW1 | apply aW2 | apply aW3 | refine below_set ?_ GE179.out) | exact HB.out)) hb); clear HO184 HO190 HO193 BK179 HB; have HO184 := n0_; have HO190 := n1_; have HO193 := n2_; have HO196 := n3_; have BK179 := n4_; have HB := n5_; clear n0_ n1_ n2_ n3_ n4_ n5_; (try clear hb); (try clear hb2); (try clear hk); (try clear hi); (try clear ho0)) | ((with_reducible refine gate_dst (N := 7) rfl ?_); refine box_event ?hg (N := 7) ?hd (cs := #[.slice none 0 0, .int .i64 0, .int .i64 0, .string (⟨#[]⟩ : ByteArray)]) (t := 41) ?hr ?_; (case hd => rfl); (case hg => rfl); (case hr => first | (go_simp; done) | (go_simp; rfl)); intro gb200 hg w41 hbox hb; have n0_ := rb HO184 hb; have n1_ := rb HO190 hb; have n2_ := rb HO193 hb; have n3_ := rb HO196 hb; have n4_ := bb BK179 hb; have n5_ := aM (below_step (by repeat (first | (with_reducible first | exact HB.out | apply aW1 | apply aW2 | apply aW3 | refine below_set ?_ GE179.out) | exact HB.out)) hb); have n6_ := aM (hbox); have n7_ := aM ((by rw [hg]; exact (below_size (by repeat (first | (with_reducible first | exact HB.out | apply aW1 | apply aW2 | apply aW3 | refine below_set ?_ GE179.out) | exact HB.out))) : w.heap.size ≤ gb200)); have n8_ := aM ((by rw [hg]; exact (below_size (by repeat (first | (with_reducible first | exact HB.out | apply aW1 | apply aW2 | apply aW3 | refine below_set ?_ GE179.out) | exact HB.out))) : w.heap.size ≤ gb200)); have n9_ := aM ((by rw [hg]; exact Nat.ne_of_lt (blk_lt (g := gb179) (aB BK179)) : gb179 ≠ gb200)); have n10_ := aM ((by rw [hg]; exact Nat.ne_of_gt (blk_lt (g := gb179) (aB BK179)) : gb200 ≠ gb179)); clear HO184 HO190 HO193 HO196 BK179 HB; have HO184 := n0_; have HO190 := n1_; have HO193 := n2_; have HO196 := n3_; have BK179 := n4_; have HB := n5_; have BK200 := n6_; have GW200 := n7_; have GE200 := n8_; have NB179_200 := n9_; have NB200_179 := n10_; clear n0_ n1_ n2_ n3_ n4_ n5_ n6_ n7_ n8_ n9_ n10_ hb hbox hg; obtain ⟨Ao42, co42, eo42⟩ := Kd.R_slice HO196.out; subst eo42; have hnb43 := NB200_179.out; have hnc43 := NB179_200.out; have hcz44_0 := cz4_0 BK200; have hcz44_1 := cz4_1 BK200; have hcz44_2 := cz4_2 BK200; have hcz44_3 := cz4_3 BK200; have hfz44_0 := blk_frozen BK200.out 0; have hfz44_1 := blk_frozen BK200.out 1; have hfz44_2 := blk_frozen BK200.out 2; have hfz44_3 := blk_frozen BK200.out 3) | ((with_reducible refine gate_callee (f := 49) rfl ?_); refine goesL_ (some 32) rfl rfl Try.func49 (by kernel_rfl) rfl #[.slice A1 l1.length c1] rfl (by (try simp only [List.map_toArray, List.map_cons, List.map_nil]); first | done | rfl | (simp only [List.length_drop, List.length_take]; rfl)) ?_; (with_reducible refine (laws_toStringS.calls k _ _ l1 t201 _ ?side1 ?side2 A17.out).mono ?_); (case side1 => exact Kd.C_below HR1.out (by repeat (first | (with_reducible first | exact HB.out | apply aW1 | apply aW2 | apply aW3 | refine below_set ?_ GE179.out | refine below_set ?_ GE200.out) | exact HB.out))); (case side2 => exact HC1.out); rintro e w45 ⟨v202, rfl, ho0, hb⟩; refine ⟨_, rfl, ?_⟩; have n0_ := aM (Kd.R_below (by (with_reducible repeat (first | apply aR1 | apply aR2 | apply aR3)); exact (Kd.R_mono (Kd.R_far (p := ⟨gb200, 3, none⟩) (Kd.R_far (p := ⟨gb200, 2, none⟩) (Kd.R_far (p := ⟨gb200, 1, none⟩) (Kd.R_far (p := ⟨gb200, 0, none⟩) (Kd.R_types HO184.out BK200.out (by decide)) (fun _ hk => hk.2) (.slice Ao42 t194.length co42)) (fun _ hk => hk.2) (.int .i64 t197)) (fun _ hk => hk.2) (.int .i64 t198)) (fun _ hk => hk.2) (.string t199)) (fun _ h_ => h_.1))) hb); have n1_ := aM (Kd.R_elder' (by (with_reducible repeat (first | apply aR1 | apply aR2 | apply aR3)); exact (Kd.R_mono (Kd.R_far (p := ⟨gb200, 3, none⟩) (Kd.R_far (p := ⟨gb200, 2, none⟩) (Kd.R_far (p := ⟨gb200, 1, none⟩) (Kd.R_far (p := ⟨gb200, 0, none⟩) (Kd.R_types HO190.out BK200.out (by decide)) (fun _ hk => hk.2) (.slice Ao42 t194.length co42)) (fun _ hk => hk.2) (.int .i64 t197)) (fun _ hk => hk.2) (.int .i64 t198)) (fun _ hk => hk.2) (.string t199)) (fun _ h_ => h_.1))) (Kd.R_base ho0) hb); have n2_ := aM (Kd.R_below (by (with_reducible repeat (first | apply aR1 | apply aR2 | apply aR3)); exact (Kd.R_mono (Kd.R_far (p := ⟨gb200, 3, none⟩) (Kd.R_far (p := ⟨gb200, 2, none⟩) (Kd.R_far (p := ⟨gb200, 1, none⟩) (Kd.R_far (p := ⟨gb200, 0, none⟩) (Kd.R_types HO193.out BK200.out (by decide)) (fun _ hk => hk.2) (.slice Ao42 t194.length co42)) (fun _ hk => hk.2) (.int .i64 t197)) (fun _ hk => hk.2) (.int .i64 t198)) (fun _ hk => hk.2) (.string t199)) (fun _ h_ => h_.1))) hb); have n3_ := aM (Kd.R_below (by (with_reducible repeat (first | apply aR1 | apply aR2 | apply aR3)); exact (Kd.R_mono (Kd.R_far (p := ⟨gb200, 3, none⟩) (Kd.R_far (p := ⟨gb200, 2, none⟩) (Kd.R_far (p := ⟨gb200, 1, none⟩) (Kd.R_far (p := ⟨gb200, 0, none⟩) (Kd.R_types HO196.out BK200.out (by decide)) (fun _ hk => hk.2) (.slice Ao42 t194.length co42)) (fun _ hk => hk.2) (.int .i64 t197)) (fun _ hk => hk.2) (.int .i64 t198)) (fun _ hk => hk.2) (.string t199)) (fun _ h_ => h_.1))) hb); have n4_ := aM (Kd.R_lower (Kd.R_new' ho0 (Kd.R_lt (by (with_reducible repeat (first | apply aR1 | apply aR2 | apply aR3)); exact (Kd.R_mono (Kd.R_far (p := ⟨gb200, 3, none⟩) (Kd.R_far (p := ⟨gb200, 2, none⟩) (Kd.R_far (p := ⟨gb200, 1, none⟩) (Kd.R_far (p := ⟨gb200, 0, none⟩) (Kd.R_types HO190.out BK200.out (by decide)) (fun _ hk => hk.2) (.slice Ao42 t194.length co42)) (fun _ hk => hk.2) (.int .i64 t197)) (fun _ hk => hk.2) (.int .i64 t198)) (fun _ hk => hk.2) (.string t199)) (fun _ h_ => h_.1))))) (below_size (by repeat (first | (with_reducible first | exact HB.out | apply aW1 | apply aW2 | apply aW3 | refine below_set ?_ GE179.out | refine below_set ?_ GE200.out) | exact HB.out)))); have n5_ := aM (blk_below (g := gb179) (o := .cells #[.slice A0_0 l0_0.length c0_0, .int .i64 a0_1, .int .i64 a0_2, .string a0_3] 37 (0, 0)) (by (with_reducible repeat (first | refine aB1 ?_ _ | refine aB2 ?_ | refine aB3 ?_ _)); refine blk_far ?_ NB179_200.out _; (with_reducible repeat (first | refine aB1 ?_ _ | refine aB2 ?_ | refine aB3 ?_ _)); refine blk_far ?_ NB179_200.out _; (with_reducible repeat (first | refine aB1 ?_ _ | refine aB2 ?_ | refine aB3 ?_ _)); refine blk_far ?_ NB179_200.out _; (with_reducible repeat (first | refine aB1 ?_ _ | refine aB2 ?_ | refine aB3 ?_ _)); refine blk_far ?_ NB179_200.out _; (with_reducible repeat (first | refine aB1 ?_ _ | refine aB2 ?_ | refine aB3 ?_ _)); exact BK179.out) hb); have n6_ := aM (blk_below (g := gb200) (o := .cells #[.slice Ao42 t194.length co42, .int .i64 t197, .int .i64 t198, .string t199] 41 (0, 0)) (by (with_reducible repeat (first | refine aB1 ?_ _ | refine aB2 ?_ | refine aB3 ?_ _)); refine blk_put (cs := #[.slice Ao42 t194.length co42, .int .i64 t197, .int .i64 t198, .string (⟨#[]⟩ : ByteArray)]) ?_ 3 _ rfl; (with_reducible repeat (first | refine aB1 ?_ _ | refine aB2 ?_ | refine aB3 ?_ _)); refine blk_put (cs := #[.slice Ao42 t194.length co42, .int .i64 t197, .int .i64 0, .string (⟨#[]⟩ : ByteArray)]) ?_ 2 _ rfl; (with_reducible repeat (first | refine aB1 ?_ _ | refine aB2 ?_ | refine aB3 ?_ _)); refine blk_put (cs := #[.slice Ao42 t194.length co42, .int .i64 0, .int .i64 0, .string (⟨#[]⟩ : ByteArray)]) ?_ 1 _ rfl; (with_reducible repeat (first | refine aB1 ?_ _ | refine aB2 ?_ | refine aB3 ?_ _)); refine blk_put (cs := #[.slice none 0 0, .int .i64 0, .int .i64 0, .string (⟨#[]⟩ : ByteArray)]) ?_ 0 _ rfl; (with_reducible repeat (first | refine aB1 ?_ _ | refine aB2 ?_ | refine aB3 ?_ _)); exact BK200.out) hb); have n7_ := aM (below_step (by repeat (first | (with_reducible first | exact HB.out | apply aW1 | apply aW2 | apply aW3 | refine below_set ?_ GE179.out | refine below_set ?_ GE200.out) | exact HB.out)) hb); clear HO184 HO190 HO193 HO196 BK179 BK200 HB; have HO184 := n0_; have HO190 := n1_; have HO193 := n2_; have HO196 := n3_; have HO203 := n4_; have BK179 := n5_; have BK200 := n6_; have HB := n7_; clear n0_ n1_ n2_ n3_ n4_ n5_ n6_ n7_; (try clear hb); (try clear hb2); (try clear hk); (try clear hi); (try clear ho0); have hcz46_0 := cz4_0 BK200; have hcz46_1 := cz4_1 BK200; have hcz46_2 := cz4_2 BK200; have hcz46_3 := cz4_3 BK200; have hfz46_0 := blk_frozen BK200.out 0; have hfz46_1 := blk_frozen BK200.out 1; have hfz46_2 := blk_frozen BK200.out 2; have hfz46_3 := blk_frozen BK200.out 3; obtain ⟨Ao47, co47, eo47⟩ := Kd.R_slice HO203.out; subst eo47) | ((with_reducible refine gate_callee (f := 62) rfl ?_); refine goesL_ (some 35) rfl rfl Try.func62 (by kernel_rfl) rfl #[.agg #[.slice Ao42 t194.length co42, .int .i64 t197, .int .i64 t198, .string t199], .slice Ao47 t201.length co47] rfl (by (try simp only [List.map_toArray, List.map_cons, List.map_nil]); first | done | rfl | (simp only [List.length_drop, List.length_take]; rfl)) ?_; (with_reducible refine (impl_KeyOf.calls k _ _ t194 t197 t198 t199 _ _ t201 t204 _ ?side1 ?side2 ?side3 ?side4 A18.out).mono ?_); (case side1 => repeat (first | exact (Kd.R_reads' HO196.out).2.2 | (with_reducible refine Kd.C_alloc ?_ _) | (with_reducible refine Kd.C_drewN ?_ _) | (with_reducible refine Kd.C_drew ?_))); (case side2 => exact (Kd.R_reads' HO196.out).2.1); (case side3 => repeat (first | exact (Kd.R_reads' HO203.out).2.2 | (with_reducible refine Kd.C_alloc ?_ _) | (with_reducible refine Kd.C_drewN ?_ _) | (with_reducible refine Kd.C_drew ?_))); (case side4 => exact (Kd.R_reads' HO203.out).2.1); rintro e w48 ⟨v205, rfl, ho0, hb⟩; refine ⟨_, rfl, ?_⟩; have n0_ := aM (Kd.R_elder' (aR HO184) (Kd.R_base ho0) hb); have n1_ := rb HO190 hb; have n2_ := aM (Kd.R_elder' (aR HO193) (Kd.R_base ho0) hb); have n3_ := aM (Kd.R_elder' (aR HO196) (Kd.R_base ho0) hb); have n4_ := rb HO203 hb; have n5_ := aM (Kd.R_lower (Kd.R_new' (Kd.R_new' (Kd.R_new' ho0 (Kd.R_lt (aR HO184))) (Kd.R_lt (aR HO193))) (Kd.R_lt (aR HO196))) (below_size (by repeat (first | (with_reducible first | exact HB.out | apply aW1 | apply aW2 | apply aW3 | refine below_set ?_ GE179.out | refine below_set ?_ GE200.out) | exact HB.out)))); have n6_ := bb BK179 hb; have n7_ := bb BK200 hb; have n8_ := aM (below_step (by repeat (first | (with_reducible first | exact HB.out | apply aW1 | apply aW2 | apply aW3 | refine below_set ?_ GE179.out | refine below_set ?_ GE200.out) | exact HB.out)) hb); clear HO184 HO190 HO193 HO196 HO203 BK179 BK200 HB; have HO184 := n0_; have HO190 := n1_; have HO193 := n2_; have HO196 := n3_; have HO203 := n4_; have HO206 := n5_; have BK179 := n6_; have BK200 := n7_; have HB := n8_; clear n0_ n1_ n2_ n3_ n4_ n5_ n6_ n7_ n8_; (try clear hb); (try clear hb2); (try clear hk); (try clear hi); (try clear ho0); obtain ⟨Ao49, co49, eo49⟩ := Kd.R_slice HO206.out; subst eo49; obtain ⟨Ao50, co50, eo50⟩ := Kd.R_slice HO193.out; subst eo50) | ((with_reducible refine gate_callee (f := 46) rfl ?_); refine goesL_ (some 38) rfl rfl Try.func46 (by kernel_rfl) rfl #[.slice Ao49 t204.length co49, .slice Ao50 t191.length co50] rfl (by (try simp only [List.map_toArray, List.map_cons, List.map_nil]); first | done | rfl | (simp only [List.length_drop, List.length_take]; rfl)) ?_; (with_reducible refine (laws_eqLabelS.calls k _ _ t204 _ _ t191 true _ ?side1 ?side2 ?side3 ?side4 A19.out).mono ?_); (case side1 => repeat (first | exact (Kd.R_reads' HO206.out).2.2 | (with_reducible refine Kd.C_alloc ?_ _) | (with_reducible refine Kd.C_drewN ?_ _) | (with_reducible refine Kd.C_drew ?_))); (case side2 => exact (Kd.R_reads' HO206.out).2.1); (case side3 => repeat (first | exact (Kd.R_reads' HO193.out).2.2 | (with_reducible refine Kd.C_alloc ?_ _) | (with_reducible refine Kd.C_drewN ?_ _) | (with_reducible refine Kd.C_drew ?_))); (case side4 => exact (Kd.R_reads' HO193.out).2.1); rintro e w51 ⟨rfl, hb⟩; refine ⟨_, rfl, ?_⟩; have n0_ := rb HO184 hb; have n1_ := rb HO190 hb; have n2_ := rb HO193 hb; have n3_ := rb HO196 hb; have n4_ := rb HO203 hb; have n5_ := rb HO206 hb; have n6_ := bb BK179 hb; have n7_ := bb BK200 hb; have n8_ := aM (below_step (by repeat (first | (with_reducible first | exact HB.out | apply aW1 | apply aW2 | apply aW3 | refine below_set ?_ GE179.out | refine below_set ?_ GE200.out) | exact HB.out)) hb); clear HO184 HO190 HO193 HO196 HO203 HO206 BK179 BK200 HB; have HO184 := n0_; have HO190 := n1_; have HO193 := n2_; have HO196 := n3_; have HO203 := n4_; have HO206 := n5_; have BK179 := n6_; have BK200 := n7_; have HB := n8_; clear n0_ n1_ n2_ n3_ n4_ n5_ n6_ n7_ n8_; (try clear hb); (try clear hb2); (try clear hk); (try clear hi)))
      have n0_ := aM (Kd.R_drew HO184.out)
      have n1_ := aM (Kd.R_drew HO190.out)
      have n2_ := aM (Kd.R_drew HO193.out)
      have n3_ := aM (Kd.R_drew HO196.out)
      have n4_ := aM (Kd.R_drew HO203.out)
      have n5_ := aM (Kd.R_drew HO206.out)
      have n6_ := aM (blk_drew BK179.out)
      have n7_ := aM (blk_drew BK200.out)
      have n8_ := aM (below_drew1 HB.out)
      clear HO184 HO190 HO193 HO196 HO203 HO206 BK179 BK200 HB; have HO184 := n0_; have HO190 := n1_; have HO193 := n2_; have HO196 := n3_; have HO203 := n4_; have HO206 := n5_; have BK179 := n6_; have BK200 := n7_; have HB := n8_; clear n0_ n1_ n2_ n3_ n4_ n5_ n6_ n7_ n8_
      refine start_ (n := 5) (S := fun w' => w'.cell? ⟨gb200, 0, none⟩ = some (.slice Ao42 t194.length co42) ∧ w'.cell? ⟨gb200, 1, none⟩ = some (.int .i64 t197) ∧ w'.cell? ⟨gb200, 2, none⟩ = some (.int .i64 t198) ∧ w'.cell? ⟨gb200, 3, none⟩ = some (.string t199) ∧ w'.cell? ⟨gb179, 0, none⟩ = some (.slice A0_0 l0_0.length c0_0) ∧ w'.cell? ⟨gb179, 1, none⟩ = some (.int .i64 a0_1) ∧ w'.cell? ⟨gb179, 2, none⟩ = some (.int .i64 a0_2) ∧ w'.cell? ⟨gb179, 3, none⟩ = some (.string a0_3)) (ds := []) #[false, false, false, false, false] (by kernel_rfl) rfl rfl ⟨(blk_cell BK200.out 0).trans rfl, (blk_cell BK200.out 1).trans rfl, (blk_cell BK200.out 2).trans rfl, (blk_cell BK200.out 3).trans rfl, (blk_cell BK179.out 0).trans rfl, (blk_cell BK179.out 1).trans rfl, (blk_cell BK179.out 2).trans rfl, (blk_cell BK179.out 3).trans rfl⟩ (fun hHeld => ?_)
      generalize w51.drew = w52 at HO184 HO190 HO193 HO196 HO203 HO206 BK179 BK200 HB hHeld ⊢
      refine take_ (i := 0) (N := some 40) (v := ?_) (a' := ?_) #[true, false, false, false, false] rfl rfl (by kernel_rfl) (fun _ _ _ h => h) (Or.inl ⟨by rfl, ?_⟩) hHeld ?_ ?_
      rotate_left
      ·rintro w' ⟨s0, s1, s2, s3, s4, s5, s6, s7⟩
       go_simp
       with_reducible rfl
      rotate_left
      ·simp only [Act.put, List.setIfInBounds_toArray, List.set_cons_zero, List.set_cons_succ, i64_w, i32_w]
       rfl
      refine take_ (i := 1) (N := some 41) (v := ?_) (a' := ?_) #[true, true, false, false, false] rfl rfl (by kernel_rfl) (fun _ _ _ h => h) (Or.inl ⟨by rfl, ?_⟩) hHeld ?_ ?_
      rotate_left
      ·rintro w' ⟨s0, s1, s2, s3, s4, s5, s6, s7⟩
       go_simp
       with_reducible rfl
      rotate_left
      ·simp only [Act.put, List.setIfInBounds_toArray, List.set_cons_zero, List.set_cons_succ, i64_w, i32_w]
       rfl
      refine one_ (i := 2) (N := some 42) #[true, true, true, false, false] rfl rfl (by kernel_rfl) (by decide) (fun K hK => ?_)
      refine goes_ Try.func34 (by kernel_rfl) rfl #[.agg #[.slice A0_0 l0_0.length c0_0, .int .i64 a0_1, .int .i64 a0_2, .string a0_3]] (by rfl) rfl rfl (by (try simp only [List.map_toArray, List.map_cons, List.map_nil]); first | done | rfl | (simp only [List.length_drop, List.length_take]; rfl)) ?_
      with_reducible refine (laws_toAlarm.calls k _ _ l0_0 a0_1 a0_2 a0_3 t208 t211 t212 t213 _ ?side1 ?side2 A21.out).mono ?_
      (case side1 => repeat (first | exact (Kd.C_below HR0_0.out HB.out) | (with_reducible refine Kd.C_alloc ?_ _) | (with_reducible refine Kd.C_drewN ?_ _) | (with_reducible refine Kd.C_drew ?_)))
      (case side2 => exact HC0_0.out)
      rintro e w53 ⟨v209, rfl, ho0, hb⟩
      refine ⟨_, rfl, ?_⟩
      have n0_ := aM (Kd.R_elder' (aR HO184) (Kd.R_base ho0) hb)
      have n1_ := rb HO190 hb
      have n2_ := aM (Kd.R_elder' (aR HO193) (Kd.R_base ho0) hb)
      have n3_ := aM (Kd.R_elder' (aR HO196) (Kd.R_base ho0) hb)
      have n4_ := rb HO203 hb
      have n5_ := aM (Kd.R_elder' (aR HO206) (Kd.R_base ho0) hb)
      have n6_ := aM (Kd.R_lower (Kd.R_new' (Kd.R_new' (Kd.R_new' (Kd.R_new' ho0 (Kd.R_lt (aR HO184))) (Kd.R_lt (aR HO193))) (Kd.R_lt (aR HO196))) (Kd.R_lt (aR HO206))) (below_size (by repeat (first | (with_reducible first | exact HB.out | apply aW1 | apply aW2 | apply aW3 | refine below_set ?_ GE179.out | refine below_set ?_ GE200.out) | exact HB.out))))
      have n7_ := bb BK179 hb; have n8_ := bb BK200 hb
      have n9_ := aM (below_step (by repeat (first | (with_reducible first | exact HB.out | apply aW1 | apply aW2 | apply aW3 | refine below_set ?_ GE179.out | refine below_set ?_ GE200.out) | exact HB.out)) hb)
      clear HO184 HO190 HO193 HO196 HO203 HO206 BK179 BK200 HB; have HO184 := n0_; have HO190 := n1_; have HO193 := n2_; have HO196 := n3_; have HO203 := n4_; have HO206 := n5_; have HO210 := n6_; have BK179 := n7_; have BK200 := n8_; have HB := n9_; clear n0_ n1_ n2_ n3_ n4_ n5_ n6_ n7_ n8_ n9_
      (try clear hb)
      (try clear hb2)
      (try clear hk)
      (try clear hi)
      (try clear ho0)
      obtain ⟨Ao54, co54, eo54⟩ := Kd.R_slice HO210.out
      (first | subst eo54 | (injection eo54 with f1_ f2_ f3_; have f4_ := f1_.symm; have f5_ := f3_.symm; clear f1_ f2_ f3_; subst f4_; subst f5_))
      refine hK.out _ _ ⟨(blk_cell BK200.out 0).trans rfl, (blk_cell BK200.out 1).trans rfl, (blk_cell BK200.out 2).trans rfl, (blk_cell BK200.out 3).trans rfl, (blk_cell BK179.out 0).trans rfl, (blk_cell BK179.out 1).trans rfl, (blk_cell BK179.out 2).trans rfl, (blk_cell BK179.out 3).trans rfl⟩ (fun hHeld => ?_)
      clear hK K
      refine norm_ (a' := ?_) ?_ ?_
      rotate_left
      ·show Act.put _ (some 42) _ = _
       simp only [Act.put, List.setIfInBounds_toArray, List.set_cons_zero, List.set_cons_succ, i64_w, i32_w]
       rfl
      refine one_ (i := 3) (N := some 43) #[true, true, true, true, false] rfl rfl (by kernel_rfl) (by decide) (fun K hK => ?_)
      refine goes_ Try.func36 (by kernel_rfl) rfl #[.agg #[.slice Ao42 t194.length co42, .int .i64 t197, .int .i64 t198, .string t199], .agg #[.slice Ao54 t208.length co54, .int .i64 t211, .int .i64 t212, .string t213]] (by rfl) rfl rfl (by (try simp only [List.map_toArray, List.map_cons, List.map_nil]); first | done | rfl | (simp only [List.length_drop, List.length_take]; rfl)) ?_
      with_reducible refine (laws_eqAlarm.calls k _ _ t194 t197 t198 t199 _ _ t208 t211 t212 t213 true _ ?side1 ?side2 ?side3 ?side4 A22.out).mono ?_
      (case side1 => repeat (first | exact (Kd.R_reads' HO196.out).2.2 | (with_reducible refine Kd.C_alloc ?_ _) | (with_reducible refine Kd.C_drewN ?_ _) | (with_reducible refine Kd.C_drew ?_)))
      (case side2 => exact (Kd.R_reads' HO196.out).2.1)
      (case side3 => repeat (first | exact (Kd.R_reads' HO210.out).2.2 | (with_reducible refine Kd.C_alloc ?_ _) | (with_reducible refine Kd.C_drewN ?_ _) | (with_reducible refine Kd.C_drew ?_)))
      (case side4 => exact (Kd.R_reads' HO210.out).2.1)
      rintro e w55 ⟨rfl, hb⟩
      refine ⟨_, rfl, ?_⟩
      have n0_ := rb HO184 hb; have n1_ := rb HO190 hb; have n2_ := rb HO193 hb; have n3_ := rb HO196 hb; have n4_ := rb HO203 hb; have n5_ := rb HO206 hb; have n6_ := rb HO210 hb; have n7_ := bb BK179 hb; have n8_ := bb BK200 hb
      have n9_ := aM (below_step (by repeat (first | (with_reducible first | exact HB.out | apply aW1 | apply aW2 | apply aW3 | refine below_set ?_ GE179.out | refine below_set ?_ GE200.out) | exact HB.out)) hb)
      clear HO184 HO190 HO193 HO196 HO203 HO206 HO210 BK179 BK200 HB; have HO184 := n0_; have HO190 := n1_; have HO193 := n2_; have HO196 := n3_; have HO203 := n4_; have HO206 := n5_; have HO210 := n6_; have BK179 := n7_; have BK200 := n8_; have HB := n9_; clear n0_ n1_ n2_ n3_ n4_ n5_ n6_ n7_ n8_ n9_
      (try clear hb)
      (try clear hb2)
      (try clear hk)
      (try clear hi)
      refine hK.out _ _ ⟨(blk_cell BK200.out 0).trans rfl, (blk_cell BK200.out 1).trans rfl, (blk_cell BK200.out 2).trans rfl, (blk_cell BK200.out 3).trans rfl, (blk_cell BK179.out 0).trans rfl, (blk_cell BK179.out 1).trans rfl, (blk_cell BK179.out 2).trans rfl, (blk_cell BK179.out 3).trans rfl⟩ (fun hHeld => ?_)
      clear hK K
      refine norm_ (a' := ?_) ?_ ?_
      rotate_left
      ·show Act.put _ (some 43) _ = _
       simp only [Act.put, List.setIfInBounds_toArray, List.set_cons_zero, List.set_cons_succ, i64_w, i32_w]
       rfl
      refine pure_ (i := 4) (N := some 44) (v := ?_) (a' := ?_) #[true, true, true, true, true] rfl rfl (by kernel_rfl) (fun _ _ _ h => h) (Or.inl ⟨by rfl, ?_⟩) ?_ ?_
      rotate_left
      ·intro w'
       go_simp
       with_reducible rfl
      rotate_left
      ·simp only [Act.put, List.setIfInBounds_toArray, List.set_cons_zero, List.set_cons_succ, i64_w, i32_w]
       rfl
      refine done_ (by kernel_rfl) ?_
      go_upto_region 21 with (first | ((with_reducible refine gate_callee (f := 49) rfl ?_); refine goesL_ (some 47) rfl rfl Try.func49 (by kernel_rfl) rfl #[.slice A1 l1.length c1] rfl (by (try simp only [List.map_toArray, List.map_cons, List.map_nil]); first | done | rfl | (simp only [List.length_drop, List.length_take]; rfl)) ?_; (with_reducible refine (laws_toStringS.calls k _ _ l1 t215 _ ?side1 ?side2 A24.out).mono ?_); (case side1 => repeat (first | exact (Kd.C_below HR1.out HB.out) | (with_reducible refine Kd.C_alloc ?_ _) | (with_reducible refine Kd.C_drewN ?_ _) | (with_reducible refine Kd.C_drew ?_))); (case side2 => exact HC1.out); rintro e w56 ⟨v216, rfl, ho0, hb⟩; refine ⟨_, rfl, ?_⟩; have n0_ := rb HO184 hb; have n1_ := aM (Kd.R_elder' (aR HO190) (Kd.R_base ho0) hb); have n2_ := rb HO193 hb; have n3_ := rb HO196 hb; have n4_ := aM (Kd.R_elder' (aR HO203) (Kd.R_base ho0) hb); have n5_ := rb HO206 hb; have n6_ := rb HO210 hb; have n7_ := aM (Kd.R_lower (Kd.R_new' (Kd.R_new' ho0 (Kd.R_lt (aR HO190))) (Kd.R_lt (aR HO203))) (below_size (by repeat (first | (with_reducible first | exact HB.out | apply aW1 | apply aW2 | apply aW3 | refine below_set ?_ GE179.out | refine below_set ?_ GE200.out) | exact HB.out)))); have n8_ := bb BK179 hb; have n9_ := bb BK200 hb; have n10_ := aM (below_step (by repeat (first | (with_reducible first | exact HB.out | apply aW1 | apply aW2 | apply aW3 | refine below_set ?_ GE179.out | refine below_set ?_ GE200.out) | exact HB.out)) hb); clear HO184 HO190 HO193 HO196 HO203 HO206 HO210 BK179 BK200 HB; have HO184 := n0_; have HO190 := n1_; have HO193 := n2_; have HO196 := n3_; have HO203 := n4_; have HO206 := n5_; have HO210 := n6_; have HO217 := n7_; have BK179 := n8_; have BK200 := n9_; have HB := n10_; clear n0_ n1_ n2_ n3_ n4_ n5_ n6_ n7_ n8_ n9_ n10_; (try clear hb); (try clear hb2); (try clear hk); (try clear hi); (try clear ho0); obtain ⟨Ao57, co57, eo57⟩ := Kd.R_slice HO217.out; subst eo57) | ((with_reducible refine gate_callee (f := 51) rfl ?_); refine goesL_ (some 48) rfl rfl Try.func51 (by kernel_rfl) rfl #[.slice Ao47 t201.length co47, .slice Ao57 t215.length co57] rfl (by (try simp only [List.map_toArray, List.map_cons, List.map_nil]); first | done | rfl | (simp only [List.length_drop, List.length_take]; rfl)) ?_; (with_reducible refine (laws_eqStringS.calls k _ _ t201 _ _ t215 true _ ?side1 ?side2 ?side3 ?side4 A25.out).mono ?_); (case side1 => repeat (first | exact (Kd.R_reads' HO203.out).2.2 | (with_reducible refine Kd.C_alloc ?_ _) | (with_reducible refine Kd.C_drewN ?_ _) | (with_reducible refine Kd.C_drew ?_))); (case side2 => exact (Kd.R_reads' HO203.out).2.1); (case side3 => repeat (first | exact (Kd.R_reads' HO217.out).2.2 | (with_reducible refine Kd.C_alloc ?_ _) | (with_reducible refine Kd.C_drewN ?_ _) | (with_reducible refine Kd.C_drew ?_))); (case side4 => exact (Kd.R_reads' HO217.out).2.1); rintro e w' ⟨rfl, ⟨nd, rfl⟩⟩; refine ⟨_, rfl, ?_⟩; have hcz58_0 := cz4_0 BK200; have hcz58_1 := cz4_1 BK200; have hcz58_2 := cz4_2 BK200; have hcz58_3 := cz4_3 BK200; have hfz58_0 := blk_frozen BK200.out 0; have hfz58_1 := blk_frozen BK200.out 1; have hfz58_2 := blk_frozen BK200.out 2; have hfz58_3 := blk_frozen BK200.out 3) | ((with_reducible refine gate_callee (f := 37) rfl ?_); refine goesL_ (some 52) rfl rfl Try.func37 (by kernel_rfl) rfl #[.agg #[.slice Ao42 t194.length co42, .int .i64 t197, .int .i64 t198, .string t199], .int .i64 1] rfl (by (try simp only [List.map_toArray, List.map_cons, List.map_nil]); first | done | rfl | (simp only [List.length_drop, List.length_take]; rfl)) ?_; (with_reducible refine (laws_markAlarm.calls k (fun k_ => some k_ = (.slice Ao42 t194.length co42 : Value).ownBlock) (.slice Ao42 t194.length co42) t194 t197 t198 t199 1 t219 t220 w _ ?side1 ?side2 A27.out).mono ?_); (case side1 => repeat (first | (with_reducible first | exact HB.out | apply aW1 | apply aW2 | apply aW3 | refine below_set ?_ GE179.out | refine below_set ?_ GE200.out) | exact HB.out)); (case side2 => exact Kd.R_tight rfl HO196.out); rintro e w59 ⟨rfl, hy0, hb, hkp⟩; refine ⟨_, rfl, ?_⟩; have n0_ := aM (blk_kept (aB BK179) hkp (fun hs_ => (fun e_ => (Kd.R_ne HO196.out BK179.out (by decide)) e_) hs_)); have n1_ := aM (Kd.R_mono (ok' := fun k_ => some k_ ≠ (.slice Ao50 t191.length co50 : Value).ownBlock ∧ some k_ ≠ (.slice Ao42 t194.length co42 : Value).ownBlock ∧ some k_ ≠ (.slice Ao49 t204.length co49 : Value).ownBlock ∧ some k_ ≠ (.slice Ao54 t208.length co54 : Value).ownBlock) (Kd.R_keptB (HO184.out) hkp (fun k_ hk_ hs_ => (hk_.1.1.2) hs_)) (fun k_ hk_ => ⟨hk_.1.1.1.1.2, hk_.1.1.1.2, hk_.1.1.2, hk_.1.2⟩)); have n2_ := aM (Kd.R_mono (ok' := fun k_ => some k_ ≠ (.slice Ao47 t201.length co47 : Value).ownBlock ∧ some k_ ≠ (.slice Ao57 t215.length co57 : Value).ownBlock) (Kd.R_keptB ((Kd.R_apart' HO190.out (Kd.R_typed HO196.out) (by decide))) hkp (fun k_ hk_ hs_ => (hk_.2) hs_)) (fun k_ hk_ => ⟨hk_.1.1.1.2, hk_.1.1.2⟩)); have n3_ := aM (Kd.R_mono (ok' := fun k_ => some k_ ≠ (.slice Ao36 t182.length co36 : Value).ownBlock ∧ some k_ ≠ (.slice Ao42 t194.length co42 : Value).ownBlock ∧ some k_ ≠ (.slice Ao49 t204.length co49 : Value).ownBlock ∧ some k_ ≠ (.slice Ao54 t208.length co54 : Value).ownBlock) (Kd.R_keptB (HO193.out) hkp (fun k_ hk_ hs_ => (hk_.1.1.2) hs_)) (fun k_ hk_ => ⟨hk_.1.1.1.1.2, hk_.1.1.1.2, hk_.1.1.2, hk_.1.2⟩)); have n4_ := aM (Kd.R_reok rfl hy0 (fun k_ e_ => HO196.out.1 k_ e_)); have n5_ := aM (blk_kept (aB BK200) hkp (fun hs_ => (fun e_ => (Kd.R_ne HO196.out BK200.out (by decide)) e_) hs_)); have n6_ := aM (Kd.R_mono (ok' := fun k_ => some k_ ≠ (.slice Ao37 t188.length co37 : Value).ownBlock ∧ some k_ ≠ (.slice Ao57 t215.length co57 : Value).ownBlock) (Kd.R_keptB ((Kd.R_apart' HO203.out (Kd.R_typed HO196.out) (by decide))) hkp (fun k_ hk_ hs_ => (hk_.2) hs_)) (fun k_ hk_ => ⟨hk_.1.1.1.2, hk_.1.1.2⟩)); have n7_ := aM (Kd.R_mono (ok' := fun k_ => some k_ ≠ (.slice Ao36 t182.length co36 : Value).ownBlock ∧ some k_ ≠ (.slice Ao50 t191.length co50 : Value).ownBlock ∧ some k_ ≠ (.slice Ao42 t194.length co42 : Value).ownBlock ∧ some k_ ≠ (.slice Ao54 t208.length co54 : Value).ownBlock) (Kd.R_keptB (HO206.out) hkp (fun k_ hk_ hs_ => (hk_.1.2) hs_)) (fun k_ hk_ => ⟨hk_.1.1.1.1.2, hk_.1.1.1.2, hk_.1.1.2, hk_.1.2⟩)); have n8_ := aM (Kd.R_mono (ok' := fun k_ => some k_ ≠ (.slice Ao36 t182.length co36 : Value).ownBlock ∧ some k_ ≠ (.slice Ao50 t191.length co50 : Value).ownBlock ∧ some k_ ≠ (.slice Ao42 t194.length co42 : Value).ownBlock ∧ some k_ ≠ (.slice Ao49 t204.length co49 : Value).ownBlock) (Kd.R_keptB (HO210.out) hkp (fun k_ hk_ hs_ => (hk_.1.2) hs_)) (fun k_ hk_ => ⟨hk_.1.1.1.1.2, hk_.1.1.1.2, hk_.1.1.2, hk_.1.2⟩)); have n9_ := aM (Kd.R_mono (ok' := fun k_ => some k_ ≠ (.slice Ao37 t188.length co37 : Value).ownBlock ∧ some k_ ≠ (.slice Ao47 t201.length co47 : Value).ownBlock) (Kd.R_keptB ((Kd.R_apart' HO217.out (Kd.R_typed HO196.out) (by decide))) hkp (fun k_ hk_ hs_ => (hk_.2) hs_)) (fun k_ hk_ => ⟨hk_.1.1.1.2, hk_.1.1.2⟩)); have n10_ := aM (hb); clear BK179 HO184 HO190 HO193 HO196 BK200 HO203 HO206 HO210 HO217 HB; have BK179 := n0_; have HO184 := n1_; have HO190 := n2_; have HO193 := n3_; have HO196 := n4_; have BK200 := n5_; have HO203 := n6_; have HO206 := n7_; have HO210 := n8_; have HO217 := n9_; have HB := n10_; clear n0_ n1_ n2_ n3_ n4_ n5_ n6_ n7_ n8_ n9_ n10_; (try clear hb); (try clear hkp); (try clear hy0)) | ((with_reducible refine gate_callee (f := 63) rfl ?_); refine goesL_ (some 55) rfl rfl Try.func63 (by kernel_rfl) rfl #[.slice Ao47 t201.length co47, .int .i64 t219] rfl (by (try simp only [List.map_toArray, List.map_cons, List.map_nil]); first | done | rfl | (simp only [List.length_drop, List.length_take]; rfl)) ?_; (with_reducible refine (laws_markStringS.calls k (fun k_ => some k_ = (.slice Ao47 t201.length co47 : Value).ownBlock) (.slice Ao47 t201.length co47) t201 t219 t221 t222 w _ ?side1 ?side2 A28.out).mono ?_); (case side1 => repeat (first | (with_reducible first | exact HB.out | apply aW1 | apply aW2 | apply aW3 | refine below_set ?_ GE179.out | refine below_set ?_ GE200.out) | exact HB.out)); (case side2 => exact Kd.R_tight rfl HO203.out); rintro e w60 ⟨rfl, hy0, hb, hkp⟩; refine ⟨_, rfl, ?_⟩; have n0_ := aM (blk_kept (aB BK179) hkp (fun hs_ => (fun e_ => (Kd.R_ne HO203.out BK179.out (by decide)) e_) hs_)); have n1_ := aM (Kd.R_mono (ok' := fun k_ => some k_ ≠ (.slice Ao50 t191.length co50 : Value).ownBlock ∧ some k_ ≠ (.slice Ao42 t194.length co42 : Value).ownBlock ∧ some k_ ≠ (.slice Ao49 t204.length co49 : Value).ownBlock ∧ some k_ ≠ (.slice Ao54 t208.length co54 : Value).ownBlock) (Kd.R_keptB ((Kd.R_apart' HO184.out (Kd.R_typed HO203.out) (by decide))) hkp (fun k_ hk_ hs_ => (hk_.2) hs_)) (fun k_ hk_ => ⟨hk_.1.1.1, hk_.1.1.2.1, hk_.1.1.2.2.1, hk_.1.1.2.2.2⟩)); have n2_ := aM (Kd.R_mono (ok' := fun k_ => some k_ ≠ (.slice Ao47 t201.length co47 : Value).ownBlock ∧ some k_ ≠ (.slice Ao57 t215.length co57 : Value).ownBlock) (Kd.R_keptB (HO190.out) hkp (fun k_ hk_ hs_ => (hk_.1) hs_)) (fun k_ hk_ => ⟨hk_.1.1, hk_.1.2⟩)); have n3_ := aM (Kd.R_mono (ok' := fun k_ => some k_ ≠ (.slice Ao36 t182.length co36 : Value).ownBlock ∧ some k_ ≠ (.slice Ao42 t194.length co42 : Value).ownBlock ∧ some k_ ≠ (.slice Ao49 t204.length co49 : Value).ownBlock ∧ some k_ ≠ (.slice Ao54 t208.length co54 : Value).ownBlock) (Kd.R_keptB ((Kd.R_apart' HO193.out (Kd.R_typed HO203.out) (by decide))) hkp (fun k_ hk_ hs_ => (hk_.2) hs_)) (fun k_ hk_ => ⟨hk_.1.1.1, hk_.1.1.2.1, hk_.1.1.2.2.1, hk_.1.1.2.2.2⟩)); have n4_ := aM (Kd.R_mono (ok' := fun k_ => some k_ ≠ (.slice Ao36 t182.length co36 : Value).ownBlock ∧ some k_ ≠ (.slice Ao50 t191.length co50 : Value).ownBlock ∧ some k_ ≠ (.slice Ao49 t204.length co49 : Value).ownBlock ∧ some k_ ≠ (.slice Ao54 t208.length co54 : Value).ownBlock) (Kd.R_keptB ((Kd.R_apart' HO196.out (Kd.R_typed HO203.out) (by decide))) hkp (fun k_ hk_ hs_ => (hk_.2) hs_)) (fun k_ hk_ => ⟨hk_.1.1.1.1.1.2, hk_.1.1.1.1.2, hk_.1.1.1.2, hk_.1.1.2⟩)); have n5_ := aM (blk_kept (aB BK200) hkp (fun hs_ => (fun e_ => (Kd.R_ne HO203.out BK200.out (by decide)) e_) hs_)); have n6_ := aM (Kd.R_reok rfl hy0 (fun k_ e_ => HO203.out.1 k_ e_)); have n7_ := aM (Kd.R_mono (ok' := fun k_ => some k_ ≠ (.slice Ao36 t182.length co36 : Value).ownBlock ∧ some k_ ≠ (.slice Ao50 t191.length co50 : Value).ownBlock ∧ some k_ ≠ (.slice Ao42 t194.length co42 : Value).ownBlock ∧ some k_ ≠ (.slice Ao54 t208.length co54 : Value).ownBlock) (Kd.R_keptB ((Kd.R_apart' HO206.out (Kd.R_typed HO203.out) (by decide))) hkp (fun k_ hk_ hs_ => (hk_.2) hs_)) (fun k_ hk_ => ⟨hk_.1.1.1, hk_.1.1.2.1, hk_.1.1.2.2.1, hk_.1.1.2.2.2⟩)); have n8_ := aM (Kd.R_mono (ok' := fun k_ => some k_ ≠ (.slice Ao36 t182.length co36 : Value).ownBlock ∧ some k_ ≠ (.slice Ao50 t191.length co50 : Value).ownBlock ∧ some k_ ≠ (.slice Ao42 t194.length co42 : Value).ownBlock ∧ some k_ ≠ (.slice Ao49 t204.length co49 : Value).ownBlock) (Kd.R_keptB ((Kd.R_apart' HO210.out (Kd.R_typed HO203.out) (by decide))) hkp (fun k_ hk_ hs_ => (hk_.2) hs_)) (fun k_ hk_ => ⟨hk_.1.1.1, hk_.1.1.2.1, hk_.1.1.2.2.1, hk_.1.1.2.2.2⟩)); have n9_ := aM (Kd.R_mono (ok' := fun k_ => some k_ ≠ (.slice Ao37 t188.length co37 : Value).ownBlock ∧ some k_ ≠ (.slice Ao47 t201.length co47 : Value).ownBlock) (Kd.R_keptB (HO217.out) hkp (fun k_ hk_ hs_ => (hk_.2) hs_)) (fun k_ hk_ => ⟨hk_.1.1, hk_.1.2⟩)); have n10_ := aM (hb); clear BK179 HO184 HO190 HO193 HO196 BK200 HO203 HO206 HO210 HO217 HB; have BK179 := n0_; have HO184 := n1_; have HO190 := n2_; have HO193 := n3_; have HO196 := n4_; have BK200 := n5_; have HO203 := n6_; have HO206 := n7_; have HO210 := n8_; have HO217 := n9_; have HB := n10_; clear n0_ n1_ n2_ n3_ n4_ n5_ n6_ n7_ n8_ n9_ n10_; (try clear hb); (try clear hkp); (try clear hy0)))
      (try simp only [Act.put, List.setIfInBounds_toArray, List.set_cons_zero, List.set_cons_succ])
      go_cut [63] (fun v63 wc => ∃ (kq : Nat) (x63_28 : Bool), v63 = .bool x63_28 ∧ Aside0 (laws_FnExactKeyOf.j0 kq l1 t191 t204 x63_28 l0_0 a0_1 a0_2 a0_3 = some r) ∧ Aside0 (kq ≤ k) ∧ Aside0 (Kd.R k90 90 wc w.heap.size (fun k_ => some k_ ≠ ((.slice Ao49 t204.length co49) : Value).ownBlock ∧ some k_ ≠ ((.slice Ao42 t194.length co42) : Value).ownBlock) (.slice Ao50 t191.length co50) t191) ∧ Aside0 (Kd.R k90 90 wc w.heap.size (fun k_ => some k_ ≠ ((.slice Ao50 t191.length co50) : Value).ownBlock ∧ some k_ ≠ ((.slice Ao42 t194.length co42) : Value).ownBlock) (.slice Ao49 t204.length co49) t204) ∧ Aside0 (Kd.R k90 90 wc w.heap.size (fun k_ => some k_ ≠ ((.slice Ao50 t191.length co50) : Value).ownBlock ∧ some k_ ≠ ((.slice Ao49 t204.length co49) : Value).ownBlock) (.slice Ao42 t194.length co42) t220) ∧ Aside0 (wc.heap[gb179]? = some (.cells #[(.slice A0_0 l0_0.length c0_0), .int .i64 a0_1, .int .i64 a0_2, .string a0_3] 37 (0, 0))) ∧ Aside0 (wc.heap[gb200]? = some (.cells #[(.slice Ao42 t194.length co42), .int .i64 t197, .int .i64 t198, .string t199] 41 (0, 0))) ∧ Aside0 (Below w.heap.size w wc))
      case first =>
       have H := HC29.out
       clear HC29
       by_cases c61 : t221 < 0
       ·rw [if_pos c61] at H; have c61b0 : decide (t221 < 0) = true := decide_eq_true c61; clear c61
        (first | rw [c61b0] | (simp only [i64_w, i32_w]; rw [c61b0]) | skip)
        have H' := aM H
        clear H
        go_wp2
        go_meet
        case rel => exact ⟨_, (true), (by first | rfl | (simp; done) | (simp [*]; done)), H', ⟨by first | omega | exact Nat.le_refl _⟩, ⟨by (with_reducible repeat (first | apply aR1 | apply aR2 | apply aR3)); exact Kd.R_mono HO193.out (fun _ hk => ⟨hk.2.2.1, hk.2.1⟩)⟩, ⟨by (with_reducible repeat (first | apply aR1 | apply aR2 | apply aR3)); exact Kd.R_mono HO206.out (fun _ hk => ⟨hk.2.1, hk.2.2.1⟩)⟩, ⟨by (with_reducible repeat (first | apply aR1 | apply aR2 | apply aR3)); exact Kd.R_mono HO196.out (fun _ hk => ⟨hk.2.1, hk.2.2.1⟩)⟩, ⟨by (with_reducible repeat (first | refine aB1 ?_ _ | refine aB2 ?_ | refine aB3 ?_ _)); exact BK179.out⟩, ⟨by (with_reducible repeat (first | refine aB1 ?_ _ | refine aB2 ?_ | refine aB3 ?_ _)); exact BK200.out⟩, ⟨by repeat (first | (with_reducible first | exact HB.out | apply aW1 | apply aW2 | apply aW3 | refine below_set ?_ GE179.out | refine below_set ?_ GE200.out) | exact HB.out)⟩⟩
       ·rw [if_neg c61] at H; have c61b0 : decide (t221 < 0) = false := decide_eq_false c61; clear c61
        (first | rw [c61b0] | (simp only [i64_w, i32_w]; rw [c61b0]) | skip)
        replace H := Option.bind_eq_some_iff.mp H; obtain ⟨t223, A620, H⟩ := H; try dsimp only at H
        have A62 := aM A620
        clear A620
        have H' := aM H
        clear H
        go_wp2_with (first | (go_at_call 46; (with_reducible refine (laws_eqLabelS.calls k _ _ t204 _ _ t191 t223 _ ?side1 ?side2 ?side3 ?side4 A62.out).mono ?_); (case side1 => repeat (first | exact (Kd.R_reads' HO206.out).2.2 | (with_reducible refine Kd.C_alloc ?_ _) | (with_reducible refine Kd.C_drewN ?_ _) | (with_reducible refine Kd.C_drew ?_))); (case side2 => exact (Kd.R_reads' HO206.out).2.1); (case side3 => repeat (first | exact (Kd.R_reads' HO193.out).2.2 | (with_reducible refine Kd.C_alloc ?_ _) | (with_reducible refine Kd.C_drewN ?_ _) | (with_reducible refine Kd.C_drew ?_))); (case side4 => exact (Kd.R_reads' HO193.out).2.1); rintro e w63 ⟨rfl, hb⟩; have n0_ := rb HO184 hb; have n1_ := rb HO190 hb; have n2_ := rb HO193 hb; have n3_ := rb HO196 hb; have n4_ := rb HO203 hb; have n5_ := rb HO206 hb; have n6_ := rb HO210 hb; have n7_ := rb HO217 hb; have n8_ := bb BK179 hb; have n9_ := bb BK200 hb; have n10_ := aM (below_step (by repeat (first | (with_reducible first | exact HB.out | apply aW1 | apply aW2 | apply aW3 | refine below_set ?_ GE179.out | refine below_set ?_ GE200.out) | exact HB.out)) hb); clear HO184 HO190 HO193 HO196 HO203 HO206 HO210 HO217 BK179 BK200 HB; have HO184 := n0_; have HO190 := n1_; have HO193 := n2_; have HO196 := n3_; have HO203 := n4_; have HO206 := n5_; have HO210 := n6_; have HO217 := n7_; have BK179 := n8_; have BK200 := n9_; have HB := n10_; clear n0_ n1_ n2_ n3_ n4_ n5_ n6_ n7_ n8_ n9_ n10_; (try clear hb); (try clear hb2); (try clear hk); (try clear hi)))
        go_meet
        case rel => exact ⟨_, (!t223), (by first | rfl | (simp; done) | (simp [*]; done)), H', ⟨by first | omega | exact Nat.le_refl _⟩, ⟨by (with_reducible repeat (first | apply aR1 | apply aR2 | apply aR3)); exact Kd.R_mono HO193.out (fun _ hk => ⟨hk.2.2.1, hk.2.1⟩)⟩, ⟨by (with_reducible repeat (first | apply aR1 | apply aR2 | apply aR3)); exact Kd.R_mono HO206.out (fun _ hk => ⟨hk.2.1, hk.2.2.1⟩)⟩, ⟨by (with_reducible repeat (first | apply aR1 | apply aR2 | apply aR3)); exact Kd.R_mono HO196.out (fun _ hk => ⟨hk.2.1, hk.2.2.1⟩)⟩, ⟨by (with_reducible repeat (first | refine aB1 ?_ _ | refine aB2 ?_ | refine aB3 ?_ _)); exact BK179.out⟩, ⟨by (with_reducible repeat (first | refine aB1 ?_ _ | refine aB2 ?_ | refine aB3 ?_ _)); exact BK200.out⟩, ⟨by repeat (first | (with_reducible first | exact HB.out | apply aW1 | apply aW2 | apply aW3 | refine below_set ?_ GE179.out | refine below_set ?_ GE200.out) | exact HB.out)⟩⟩
      case rest =>
       clear HC29
       try clear c1
       try clear c2
       try clear p2
       try clear c3
       try clear c4
       try clear c4b0
       try clear c5
       try clear c6
       try clear c9
       try clear c9b0
       try clear c20
       try clear c23
       try clear c26
       try clear c32
       try clear c34
       try clear c36
       try clear c37
       try clear c43
       try clear c46
       try clear c47
       try clear c49
       try clear c51
       try clear c61
       try clear c61b0
       try clear c62
       try clear c63
       try clear hcz11_0
       try clear hcz11_1
       try clear hcz11_2
       try clear hcz11_3
       try clear hcz31_0
       try clear hcz31_1
       try clear hcz31_2
       try clear hcz31_3
       try clear hcz33_0
       try clear hcz33_1
       try clear hcz33_2
       try clear hcz33_3
       try clear hcz39_0
       try clear hcz39_1
       try clear hcz39_2
       try clear hcz39_3
       try clear hcz44_0
       try clear hcz44_1
       try clear hcz44_2
       try clear hcz44_3
       try clear hcz46_0
       try clear hcz46_1
       try clear hcz46_2
       try clear hcz46_3
       try clear hcz58_0
       try clear hcz58_1
       try clear hcz58_2
       try clear hcz58_3
       try clear hcz6_0
       try clear hcz6_1
       try clear hcz6_2
       try clear hcz6_3
       try clear hfz11_0
       try clear hfz11_1
       try clear hfz11_2
       try clear hfz11_3
       try clear hfz31_0
       try clear hfz31_1
       try clear hfz31_2
       try clear hfz31_3
       try clear hfz33_0
       try clear hfz33_1
       try clear hfz33_2
       try clear hfz33_3
       try clear hfz39_0
       try clear hfz39_1
       try clear hfz39_2
       try clear hfz39_3
       try clear hfz44_0
       try clear hfz44_1
       try clear hfz44_2
       try clear hfz44_3
       try clear hfz46_0
       try clear hfz46_1
       try clear hfz46_2
       try clear hfz46_3
       try clear hfz58_0
       try clear hfz58_1
       try clear hfz58_2
       try clear hfz58_3
       try clear hfz6_0
       try clear hfz6_1
       try clear hfz6_2
       try clear hfz6_3
       obtain ⟨kq, x63_28, rfl, HA, HJ28, HO_6, HO_9, HO_201000, BK179, BK200, HB⟩ := hcut
       have hl201000_28 := (Kd.R_reads' HO_201000.out).1
       rw [hl201000_28] at HO_201000
       (try simp only [hl201000_28])
       (try simp only [hl201000_28] at BK179)
       (try simp only [hl201000_28] at BK200)
       (try simp only [hl201000_28] at HO_6)
       (try simp only [hl201000_28] at HO_9)
       cases kq with
       | zero => exact absurd HA.out (by simp [laws_FnExactKeyOf.j0])
       | succ kj28 =>
        have H := HA.out
        clear HA
        simp only [laws_FnExactKeyOf.j0] at H
        by_cases c64 : x63_28 = true
        ·subst c64
         have H1 : (some false) = some r := by rw [if_pos rfl] at H; exact H
         clear H
         have H := H1
         clear H1
         exact absurd (Option.some.inj H) (by rw [hr_.out]; decide)
        ·replace c64 := Bool.eq_false_iff.mpr c64
         subst c64
         have H1 : ((laws_markLabelS.f kj28 t204 1).bind fun bt224 => ((laws_heldLabelS.f kj28 bt224.2 1).bind fun t226 => (if t226 < 0 then (some false) else (if t226 = bt224.1 then ((laws_toAlarm.f kj28 l0_0 a0_1 a0_2 a0_3).bind fun bt227 => ((laws_toStringS.f kj28 l1).bind fun t233 => ((impl_KeyOf.f kj28 bt227.1 bt227.2.1 bt227.2.2.1 bt227.2.2.2 t233).bind fun t236 => ((laws_eqLabelS.f kj28 t236 t191).bind fun t239 => (if t239 = true then ((laws_heldLabelS.f kj28 bt224.2 1).bind fun t240 => (if t240 < 0 then (some false) else (if t240 = bt224.1 then (some true) else (some false)))) else (some false)))))) else (some false))))) = some r := by rw [if_neg (show ¬ (false = true) by decide)] at H; exact H
         clear H
         have H := H1
         clear H1; replace H := Option.bind_eq_some_iff.mp H
         obtain ⟨⟨t224, t225⟩, A650, H⟩ := H
         try dsimp only at H
         have A65 := aM A650
         clear A650; replace H := Option.bind_eq_some_iff.mp H; obtain ⟨t226, A660, H⟩ := H; try dsimp only at H
         have A66 := aM A660
         clear A660
         by_cases c67 : t226 < 0
         ·rw [if_pos c67] at H; have c67b0 : decide (t226 < 0) = true := decide_eq_true c67; clear c67
          exact absurd (Option.some.inj H) (by rw [hr_.out]; decide)
         ·rw [if_neg c67] at H; have c67b0 : decide (t226 < 0) = false := decide_eq_false c67; clear c67
          by_cases c68 : t226 = t224
          ·rw [if_pos c68] at H
           have c68b0 : (t226 == t224) = true := beq_iff_eq.mpr c68
           have c68b1 : (t226 != t224) = false := bne_eq_false_iff_eq.mpr c68
           clear c68; replace H := Option.bind_eq_some_iff.mp H
           obtain ⟨⟨t227, t230, t231, t232⟩, A690, H⟩ := H
           try dsimp only at H
           have A69 := aM A690
           clear A690; replace H := Option.bind_eq_some_iff.mp H; obtain ⟨t233, A700, H⟩ := H; try dsimp only at H
           have A70 := aM A700
           clear A700; replace H := Option.bind_eq_some_iff.mp H; obtain ⟨t236, A710, H⟩ := H; try dsimp only at H
           have A71 := aM A710
           clear A710; replace H := Option.bind_eq_some_iff.mp H; obtain ⟨t239, A720, H⟩ := H; try dsimp only at H
           have A72 := aM A720
           clear A720
           by_cases c73 : t239 = true
           ·subst c73
            have H1 : ((laws_heldLabelS.f kj28 t225 1).bind fun t240 => (if t240 < 0 then (some false) else (if t240 = t224 then (some true) else (some false)))) = some r := by rw [if_pos rfl] at H; exact H
            clear H
            have H := H1
            clear H1; replace H := Option.bind_eq_some_iff.mp H; obtain ⟨t240, A740, H⟩ := H; try dsimp only at H
            have A74 := aM A740
            clear A740
            by_cases c75 : t240 < 0
            ·rw [if_pos c75] at H; have c75b0 : decide (t240 < 0) = true := decide_eq_true c75; clear c75
             exact absurd (Option.some.inj H) (by rw [hr_.out]; decide)
            ·rw [if_neg c75] at H; have c75b0 : decide (t240 < 0) = false := decide_eq_false c75; clear c75
             by_cases c76 : t240 = t224
             ·rw [if_pos c76] at H
              have c76b0 : (t240 == t224) = true := beq_iff_eq.mpr c76
              have c76b1 : (t240 != t224) = false := bne_eq_false_iff_eq.mpr c76
              clear c76
              obtain rfl := Option.some.inj H
              go_wp2_with (first | ((with_reducible refine gate_callee (f := 64) rfl ?_); refine goesL_ (some 66) rfl rfl Try.func64 (by kernel_rfl) rfl #[.slice Ao49 t204.length co49, .int .i64 1] rfl (by (try simp only [List.map_toArray, List.map_cons, List.map_nil]); first | done | rfl | (simp only [List.length_drop, List.length_take]; rfl)) ?_; (with_reducible refine (laws_markLabelS.calls kj28 (fun k_ => some k_ = (.slice Ao49 t204.length co49 : Value).ownBlock) (.slice Ao49 t204.length co49) t204 1 t224 t225 w _ ?side1 ?side2 A65.out).mono ?_); (case side1 => repeat (first | (with_reducible first | exact HB.out | apply aW1 | apply aW2 | apply aW3 | refine below_set ?_ GE179.out | refine below_set ?_ GE200.out) | exact HB.out)); (case side2 => exact Kd.R_tight rfl HO_9.out); rintro e w77 ⟨rfl, hy0, hb, hkp⟩; refine ⟨_, rfl, ?_⟩; have n0_ := aM (Kd.R_mono (ok' := fun k_ => some k_ ≠ (.slice Ao49 t204.length co49 : Value).ownBlock ∧ some k_ ≠ (.slice Ao42 t220.length co42 : Value).ownBlock) (Kd.R_keptB (HO_6.out) hkp (fun k_ hk_ hs_ => (hk_.1) hs_)) (fun k_ hk_ => ⟨hk_.1.1, hk_.1.2⟩)); have n1_ := aM (Kd.R_reok rfl hy0 (fun k_ e_ => HO_9.out.1 k_ e_)); have n2_ := aM (Kd.R_mono (ok' := fun k_ => some k_ ≠ (.slice Ao50 t191.length co50 : Value).ownBlock ∧ some k_ ≠ (.slice Ao49 t204.length co49 : Value).ownBlock) (Kd.R_keptB (HO_201000.out) hkp (fun k_ hk_ hs_ => (hk_.2) hs_)) (fun k_ hk_ => ⟨hk_.1.1, hk_.1.2⟩)); have n3_ := aM (blk_kept (aB BK179) hkp (fun hs_ => (fun e_ => (Kd.R_ne HO_9.out BK179.out (by decide)) e_) hs_)); have n4_ := aM (blk_kept (aB BK200) hkp (fun hs_ => (fun e_ => (Kd.R_ne HO_9.out BK200.out (by decide)) e_) hs_)); have n5_ := aM (hb); clear HO_6 HO_9 HO_201000 BK179 BK200 HB; have HO_6 := n0_; have HO_9 := n1_; have HO_201000 := n2_; have BK179 := n3_; have BK200 := n4_; have HB := n5_; clear n0_ n1_ n2_ n3_ n4_ n5_; (try clear hb); (try clear hkp); (try clear hy0)) | ((with_reducible refine gate_callee (f := 65) rfl ?_); refine goesL_ (some 69) rfl rfl Try.func65 (by kernel_rfl) rfl #[.slice Ao49 t225.length co49, .int .i64 1] rfl (by (try simp only [List.map_toArray, List.map_cons, List.map_nil]); first | done | (rw [show t225.length = t204.length from (Kd.R_reads' HO_9.out).1.symm] <;> rfl) | rfl | (simp only [List.length_drop, List.length_take]; rfl)) ?_; (with_reducible refine (laws_heldLabelS.calls kj28 _ _ t225 1 t226 _ ?side1 ?side2 A66.out).mono ?_); (case side1 => repeat (first | exact (Kd.R_reads' HO_9.out).2.2 | (with_reducible refine Kd.C_alloc ?_ _) | (with_reducible refine Kd.C_drewN ?_ _) | (with_reducible refine Kd.C_drew ?_))); (case side2 => rw [show t225.length = t204.length from (Kd.R_reads' HO_9.out).1.symm]; exact (Kd.R_reads' HO_9.out).2.1); rintro e w78 ⟨rfl, hb⟩; refine ⟨_, rfl, ?_⟩; have n0_ := rb HO_6 hb; have n1_ := rb HO_9 hb; have n2_ := rb HO_201000 hb; have n3_ := bb BK179 hb; have n4_ := bb BK200 hb; have n5_ := aM (below_step (by repeat (first | (with_reducible first | exact HB.out | apply aW1 | apply aW2 | apply aW3 | refine below_set ?_ GE179.out | refine below_set ?_ GE200.out) | exact HB.out)) hb); clear HO_6 HO_9 HO_201000 BK179 BK200 HB; have HO_6 := n0_; have HO_9 := n1_; have HO_201000 := n2_; have BK179 := n3_; have BK200 := n4_; have HB := n5_; clear n0_ n1_ n2_ n3_ n4_ n5_; (try clear hb); (try clear hb2); (try clear hk); (try clear hi); have hnb79 := NB179_200.out; have hnc79 := NB200_179.out; have hcz80_0 := cz4_0 BK179; have hcz80_1 := cz4_1 BK179; have hcz80_2 := cz4_2 BK179; have hcz80_3 := cz4_3 BK179; have hfz80_0 := blk_frozen BK179.out 0; have hfz80_1 := blk_frozen BK179.out 1; have hfz80_2 := blk_frozen BK179.out 2; have hfz80_3 := blk_frozen BK179.out 3) | ((with_reducible refine gate_callee (f := 34) rfl ?_); refine goesL_ (some 76) rfl rfl Try.func34 (by kernel_rfl) rfl #[.agg #[.slice A0_0 l0_0.length c0_0, .int .i64 a0_1, .int .i64 a0_2, .string a0_3]] rfl (by (try simp only [List.map_toArray, List.map_cons, List.map_nil]); first | done | rfl | (simp only [List.length_drop, List.length_take]; rfl)) ?_; (with_reducible refine (laws_toAlarm.calls kj28 _ _ l0_0 a0_1 a0_2 a0_3 t227 t230 t231 t232 _ ?side1 ?side2 A69.out).mono ?_); (case side1 => repeat (first | exact (Kd.C_below HR0_0.out HB.out) | (with_reducible refine Kd.C_alloc ?_ _) | (with_reducible refine Kd.C_drewN ?_ _) | (with_reducible refine Kd.C_drew ?_))); (case side2 => exact HC0_0.out); rintro e w81 ⟨v228, rfl, ho0, hb⟩; refine ⟨_, rfl, ?_⟩; have n0_ := aM (Kd.R_elder' (aR HO_6) (Kd.R_base ho0) hb); have n1_ := aM (Kd.R_elder' (aR HO_9) (Kd.R_base ho0) hb); have n2_ := aM (Kd.R_elder' (aR HO_201000) (Kd.R_base ho0) hb); have n3_ := aM (Kd.R_lower (Kd.R_new' (Kd.R_new' (Kd.R_new' ho0 (Kd.R_lt (aR HO_6))) (Kd.R_lt (aR HO_9))) (Kd.R_lt (aR HO_201000))) (below_size (by repeat (first | (with_reducible first | exact HB.out | apply aW1 | apply aW2 | apply aW3 | refine below_set ?_ GE179.out | refine below_set ?_ GE200.out) | exact HB.out)))); have n4_ := bb BK179 hb; have n5_ := bb BK200 hb; have n6_ := aM (below_step (by repeat (first | (with_reducible first | exact HB.out | apply aW1 | apply aW2 | apply aW3 | refine below_set ?_ GE179.out | refine below_set ?_ GE200.out) | exact HB.out)) hb); clear HO_6 HO_9 HO_201000 BK179 BK200 HB; have HO_6 := n0_; have HO_9 := n1_; have HO_201000 := n2_; have HO229 := n3_; have BK179 := n4_; have BK200 := n5_; have HB := n6_; clear n0_ n1_ n2_ n3_ n4_ n5_ n6_; (try clear hb); (try clear hb2); (try clear hk); (try clear hi); (try clear ho0)) | ((with_reducible refine gate_callee (f := 49) rfl ?_); refine goesL_ (some 78) rfl rfl Try.func49 (by kernel_rfl) rfl #[.slice A1 l1.length c1] rfl (by (try simp only [List.map_toArray, List.map_cons, List.map_nil]); first | done | rfl | (simp only [List.length_drop, List.length_take]; rfl)) ?_; (with_reducible refine (laws_toStringS.calls kj28 _ _ l1 t233 _ ?side1 ?side2 A70.out).mono ?_); (case side1 => repeat (first | exact (Kd.C_below HR1.out HB.out) | (with_reducible refine Kd.C_alloc ?_ _) | (with_reducible refine Kd.C_drewN ?_ _) | (with_reducible refine Kd.C_drew ?_))); (case side2 => exact HC1.out); rintro e w82 ⟨v234, rfl, ho0, hb⟩; refine ⟨_, rfl, ?_⟩; have n0_ := rb HO_6 hb; have n1_ := rb HO_9 hb; have n2_ := rb HO_201000 hb; have n3_ := rb HO229 hb; have n4_ := aM (Kd.R_lower ho0 (below_size (by repeat (first | (with_reducible first | exact HB.out | apply aW1 | apply aW2 | apply aW3 | refine below_set ?_ GE179.out | refine below_set ?_ GE200.out) | exact HB.out)))); have n5_ := bb BK179 hb; have n6_ := bb BK200 hb; have n7_ := aM (below_step (by repeat (first | (with_reducible first | exact HB.out | apply aW1 | apply aW2 | apply aW3 | refine below_set ?_ GE179.out | refine below_set ?_ GE200.out) | exact HB.out)) hb); clear HO_6 HO_9 HO_201000 HO229 BK179 BK200 HB; have HO_6 := n0_; have HO_9 := n1_; have HO_201000 := n2_; have HO229 := n3_; have HO235 := n4_; have BK179 := n5_; have BK200 := n6_; have HB := n7_; clear n0_ n1_ n2_ n3_ n4_ n5_ n6_ n7_; (try clear hb); (try clear hb2); (try clear hk); (try clear hi); (try clear ho0); obtain ⟨Ao83, co83, eo83⟩ := Kd.R_slice HO229.out; subst eo83; obtain ⟨Ao84, co84, eo84⟩ := Kd.R_slice HO235.out; subst eo84) | ((with_reducible refine gate_callee (f := 62) rfl ?_); refine goesL_ (some 79) rfl rfl Try.func62 (by kernel_rfl) rfl #[.agg #[.slice Ao83 t227.length co83, .int .i64 t230, .int .i64 t231, .string t232], .slice Ao84 t233.length co84] rfl (by (try simp only [List.map_toArray, List.map_cons, List.map_nil]); first | done | rfl | (simp only [List.length_drop, List.length_take]; rfl)) ?_; (with_reducible refine (impl_KeyOf.calls kj28 _ _ t227 t230 t231 t232 _ _ t233 t236 _ ?side1 ?side2 ?side3 ?side4 A71.out).mono ?_); (case side1 => repeat (first | exact (Kd.R_reads' HO229.out).2.2 | (with_reducible refine Kd.C_alloc ?_ _) | (with_reducible refine Kd.C_drewN ?_ _) | (with_reducible refine Kd.C_drew ?_))); (case side2 => exact (Kd.R_reads' HO229.out).2.1); (case side3 => repeat (first | exact (Kd.R_reads' HO235.out).2.2 | (with_reducible refine Kd.C_alloc ?_ _) | (with_reducible refine Kd.C_drewN ?_ _) | (with_reducible refine Kd.C_drew ?_))); (case side4 => exact (Kd.R_reads' HO235.out).2.1); rintro e w85 ⟨v237, rfl, ho0, hb⟩; refine ⟨_, rfl, ?_⟩; have n0_ := aM (Kd.R_elder' (aR HO_6) (Kd.R_base ho0) hb); have n1_ := aM (Kd.R_elder' (aR HO_9) (Kd.R_base ho0) hb); have n2_ := aM (Kd.R_elder' (aR HO_201000) (Kd.R_base ho0) hb); have n3_ := aM (Kd.R_elder' (aR HO229) (Kd.R_base ho0) hb); have n4_ := rb HO235 hb; have n5_ := aM (Kd.R_lower (Kd.R_new' (Kd.R_new' (Kd.R_new' (Kd.R_new' ho0 (Kd.R_lt (aR HO_6))) (Kd.R_lt (aR HO_9))) (Kd.R_lt (aR HO_201000))) (Kd.R_lt (aR HO229))) (below_size (by repeat (first | (with_reducible first | exact HB.out | apply aW1 | apply aW2 | apply aW3 | refine below_set ?_ GE179.out | refine below_set ?_ GE200.out) | exact HB.out)))); have n6_ := bb BK179 hb; have n7_ := bb BK200 hb; have n8_ := aM (below_step (by repeat (first | (with_reducible first | exact HB.out | apply aW1 | apply aW2 | apply aW3 | refine below_set ?_ GE179.out | refine below_set ?_ GE200.out) | exact HB.out)) hb); clear HO_6 HO_9 HO_201000 HO229 HO235 BK179 BK200 HB; have HO_6 := n0_; have HO_9 := n1_; have HO_201000 := n2_; have HO229 := n3_; have HO235 := n4_; have HO238 := n5_; have BK179 := n6_; have BK200 := n7_; have HB := n8_; clear n0_ n1_ n2_ n3_ n4_ n5_ n6_ n7_ n8_; (try clear hb); (try clear hb2); (try clear hk); (try clear hi); (try clear ho0); obtain ⟨Ao86, co86, eo86⟩ := Kd.R_slice HO238.out; subst eo86) | ((with_reducible refine gate_callee (f := 46) rfl ?_); refine goesL_ (some 82) rfl rfl Try.func46 (by kernel_rfl) rfl #[.slice Ao86 t236.length co86, .slice Ao50 t191.length co50] rfl (by (try simp only [List.map_toArray, List.map_cons, List.map_nil]); first | done | rfl | (simp only [List.length_drop, List.length_take]; rfl)) ?_; (with_reducible refine (laws_eqLabelS.calls kj28 _ _ t236 _ _ t191 true _ ?side1 ?side2 ?side3 ?side4 A72.out).mono ?_); (case side1 => repeat (first | exact (Kd.R_reads' HO238.out).2.2 | (with_reducible refine Kd.C_alloc ?_ _) | (with_reducible refine Kd.C_drewN ?_ _) | (with_reducible refine Kd.C_drew ?_))); (case side2 => exact (Kd.R_reads' HO238.out).2.1); (case side3 => repeat (first | exact (Kd.R_reads' HO_6.out).2.2 | (with_reducible refine Kd.C_alloc ?_ _) | (with_reducible refine Kd.C_drewN ?_ _) | (with_reducible refine Kd.C_drew ?_))); (case side4 => exact (Kd.R_reads' HO_6.out).2.1); rintro e w87 ⟨rfl, hb⟩; refine ⟨_, rfl, ?_⟩; have n0_ := rb HO_6 hb; have n1_ := rb HO_9 hb; have n2_ := rb HO_201000 hb; have n3_ := rb HO229 hb; have n4_ := rb HO235 hb; have n5_ := rb HO238 hb; have n6_ := bb BK179 hb; have n7_ := bb BK200 hb; have n8_ := aM (below_step (by repeat (first | (with_reducible first | exact HB.out | apply aW1 | apply aW2 | apply aW3 | refine below_set ?_ GE179.out | refine below_set ?_ GE200.out) | exact HB.out)) hb); clear HO_6 HO_9 HO_201000 HO229 HO235 HO238 BK179 BK200 HB; have HO_6 := n0_; have HO_9 := n1_; have HO_201000 := n2_; have HO229 := n3_; have HO235 := n4_; have HO238 := n5_; have BK179 := n6_; have BK200 := n7_; have HB := n8_; clear n0_ n1_ n2_ n3_ n4_ n5_ n6_ n7_ n8_; (try clear hb); (try clear hb2); (try clear hk); (try clear hi)) | ((with_reducible refine gate_callee (f := 65) rfl ?_); refine goesL_ (some 86) rfl rfl Try.func65 (by kernel_rfl) rfl #[.slice Ao49 t225.length co49, .int .i64 1] rfl (by (try simp only [List.map_toArray, List.map_cons, List.map_nil]); first | done | (rw [show t225.length = t204.length from (Kd.R_reads' HO_9.out).1.symm] <;> rfl) | rfl | (simp only [List.length_drop, List.length_take]; rfl)) ?_; (with_reducible refine (laws_heldLabelS.calls kj28 _ _ t225 1 t240 _ ?side1 ?side2 A74.out).mono ?_); (case side1 => repeat (first | exact (Kd.R_reads' HO_9.out).2.2 | (with_reducible refine Kd.C_alloc ?_ _) | (with_reducible refine Kd.C_drewN ?_ _) | (with_reducible refine Kd.C_drew ?_))); (case side2 => rw [show t225.length = t204.length from (Kd.R_reads' HO_9.out).1.symm]; exact (Kd.R_reads' HO_9.out).2.1); rintro e w88 ⟨rfl, hb⟩; refine ⟨_, rfl, ?_⟩; have n0_ := rb HO_6 hb; have n1_ := rb HO_9 hb; have n2_ := rb HO_201000 hb; have n3_ := rb HO229 hb; have n4_ := rb HO235 hb; have n5_ := rb HO238 hb; have n6_ := bb BK179 hb; have n7_ := bb BK200 hb; have n8_ := aM (below_step (by repeat (first | (with_reducible first | exact HB.out | apply aW1 | apply aW2 | apply aW3 | refine below_set ?_ GE179.out | refine below_set ?_ GE200.out) | exact HB.out)) hb); clear HO_6 HO_9 HO_201000 HO229 HO235 HO238 BK179 BK200 HB; have HO_6 := n0_; have HO_9 := n1_; have HO_201000 := n2_; have HO229 := n3_; have HO235 := n4_; have HO238 := n5_; have BK179 := n6_; have BK200 := n7_; have HB := n8_; clear n0_ n1_ n2_ n3_ n4_ n5_ n6_ n7_ n8_; (try clear hb); (try clear hb2); (try clear hk); (try clear hi)))
              go_ret
              exact ⟨by first | rfl | (simp [errW_none, errW_some] <;> rfl) | (simp [*, errW_none, errW_some] <;> rfl), by repeat (first | (with_reducible first | exact HB.out | apply aW1 | apply aW2 | apply aW3 | refine below_set ?_ GE179.out | refine below_set ?_ GE200.out) | exact HB.out)⟩
             ·rw [if_neg c76] at H
              have c76b0 : (t240 == t224) = false := beq_eq_false_iff_ne.mpr c76
              have c76b1 : (t240 != t224) = true := bne_iff_ne.mpr c76
              exact absurd (Option.some.inj H) (by rw [hr_.out]; decide)
           ·replace c73 := Bool.eq_false_iff.mpr c73
            subst c73
            have H1 : (some false) = some r := by rw [if_neg (show ¬ (false = true) by decide)] at H; exact H
            clear H
            have H := H1
            clear H1
            exact absurd (Option.some.inj H) (by rw [hr_.out]; decide)
          ·rw [if_neg c68] at H
           have c68b0 : (t226 == t224) = false := beq_eq_false_iff_ne.mpr c68
           have c68b1 : (t226 != t224) = true := bne_iff_ne.mpr c68
           exact absurd (Option.some.inj H) (by rw [hr_.out]; decide)
     ·replace c26 := Bool.eq_false_iff.mpr c26
      subst c26
      have H1 : (some false) = some r := by rw [if_neg (show ¬ (false = true) by decide)] at H; exact H
      clear H
      have H := H1
      clear H1
      exact absurd (Option.some.inj H) (by rw [hr_.out]; decide)
    ·replace c23 := Bool.eq_false_iff.mpr c23
     subst c23
     have H1 : (some false) = some r := by rw [if_neg (show ¬ (false = true) by decide)] at H; exact H
     clear H
     have H := H1
     clear H1
     exact absurd (Option.some.inj H) (by rw [hr_.out]; decide)
   ·replace c20 := Bool.eq_false_iff.mpr c20
    subst c20
    have H1 : (some false) = some r := by rw [if_neg (show ¬ (false = true) by decide)] at H; exact H
    clear H
    have H := H1
    clear H1
    exact absurd (Option.some.inj H) (by rw [hr_.out]; decide)

end Go.Proofs.Ytglefglknlcojab.PFnExactKeyOf
