/- What the Go functions that FnAlarms reaches compute, as Lean functions, and that the machine's calls do so; no conditions. -/
import Derived.Test.YtgindocfjoalhabDoorPFnAlarmsx0
import Derived.Test.YtgindocfjoalhabDoorPFnAlarmsx2
import Derived.Test.YtgindocfjoalhabDoorPFnAlarmsx3
namespace Go.Proofs.YtgindocfjoalhabDoor.PFnAlarms
open Go.Proofs.YtgindocfjoalhabDoor
open Go.RowKit Go.Proofs.YtgindocfjoalhabDoorW.PrintWords Go.Proofs.YtgindocfjoalhabDoorW.PrintLast Go.Proofs.YtgindocfjoalhabDoorW.PrintMore
attribute [local go_sem] max2_int min2_int max_two min_two max_three min_three max_four min_four   -- for this text's walks alone
set_option linter.unusedVariables false
set_option linter.unusedSimpArgs false

/-! ### spec_DrawSameAlarm: function 6 -/
def spec_DrawSameAlarm.f (k : Nat) (l0 : List Int) : Option ((List (S56)) × Int × Int × ByteArray × (List (S56)) × Int × Int × ByteArray) := (spec_l1New.f k l0).bind fun bt319 => ((spec_l4Any.f k bt319.1 bt319.2.1 bt319.2.2).bind fun bt323 => ((spec_l1Once.f bt319.1 bt323.2.2.2.2.1 bt323.2.2.2.2.2 2).bind fun bt332 => (if bt332.1 = true then ((spec_l4Copy.f bt323.1 bt323.2.1 bt323.2.2.1 bt323.2.2.2.1).bind fun bt335 => (some (bt323.1, bt323.2.1, bt323.2.2.1, bt323.2.2.2.1, bt335.1, bt335.2.1, bt335.2.2.1, bt335.2.2.2))) else ((spec_l4Any.f k bt319.1 bt332.2.1 bt332.2.2).bind fun bt341 => (some (bt323.1, bt323.2.1, bt323.2.2.1, bt323.2.2.2.1, bt341.1, bt341.2.1, bt341.2.2.1, bt341.2.2.2.1))))))
set_option maxHeartbeats 8000000 in
set_option maxRecDepth 100000 in
theorem spec_DrawSameAlarm.calls (k : Nat) (A0 : Option Addr) (c0 : Nat) (l0 : List Int) (r1 : List (S56)) (r2 : Int) (r3 : Int) (r4 : ByteArray) (r5 : List (S56)) (r6 : Int) (r7 : Int) (r8 : ByteArray) (w : World) (hr0 : Kd.C (Kd.int .u8) w A0 l0.length l0) (hc0 : l0.length ≤ c0) (h : spec_DrawSameAlarm.f k l0 = some (r1, r2, r3, r4, r5, r6, r7, r8)) :
  Calls Tryd.prog 6 #[.slice A0 l0.length c0] w fun e w' => ∃ v0_ v4_ : Value, e = .returned (.tuple #[.agg #[v0_, .int .i64 r2, .int .i64 r3, .string r4], .agg #[v4_, .int .i64 r6, .int .i64 r7, .string r8]]) ∧ Kd.R k56 56 w' w.heap.size (fun k_ => some k_ ≠ (v4_ : Value).ownBlock) v0_ r1 ∧ Kd.R k56 56 w' w.heap.size (fun k_ => some k_ ≠ (v0_ : Value).ownBlock) v4_ r5 ∧ Below w.heap.size w w' := by
 have hu26 := Tryd.underlying26
 have HR0 := aM hr0
 have HC0 := aM hc0
 clear hr0 hc0
 have HB := aM (Below.refl w.heap.size w)
 have H : ((spec_l1New.f k l0).bind fun bt319 => ((spec_l4Any.f k bt319.1 bt319.2.1 bt319.2.2).bind fun bt323 => ((spec_l1Once.f bt319.1 bt323.2.2.2.2.1 bt323.2.2.2.2.2 2).bind fun bt332 => (if bt332.1 = true then ((spec_l4Copy.f bt323.1 bt323.2.1 bt323.2.2.1 bt323.2.2.2.1).bind fun bt335 => (some (bt323.1, bt323.2.1, bt323.2.2.1, bt323.2.2.2.1, bt335.1, bt335.2.1, bt335.2.2.1, bt335.2.2.2))) else ((spec_l4Any.f k bt319.1 bt332.2.1 bt332.2.2).bind fun bt341 => (some (bt323.1, bt323.2.1, bt323.2.2.1, bt323.2.2.2.1, bt341.1, bt341.2.1, bt341.2.2.1, bt341.2.2.2.1))))))) = some (r1, r2, r3, r4, r5, r6, r7, r8) := h
 clear h; replace H := Option.bind_eq_some_iff.mp H
 obtain ⟨⟨t319, t320, t321⟩, A20, H⟩ := H
 try dsimp only at H
 have A2 := aM A20
 clear A20; replace H := Option.bind_eq_some_iff.mp H
 obtain ⟨⟨t323, t326, t327, t328, t329, t330⟩, A30, H⟩ := H
 try dsimp only at H
 have A3 := aM A30
 clear A30; replace H := Option.bind_eq_some_iff.mp H
 obtain ⟨⟨t332, t333, t334⟩, A40, H⟩ := H
 try dsimp only at H
 have A4 := aM A40
 clear A40
 by_cases c5 : t332 = true
 ·subst c5
  have H1 : ((spec_l4Copy.f t323 t326 t327 t328).bind fun bt335 => (some (t323, t326, t327, t328, bt335.1, bt335.2.1, bt335.2.2.1, bt335.2.2.2))) = some (r1, r2, r3, r4, r5, r6, r7, r8) := by rw [if_pos rfl] at H; exact H
  clear H
  have H := H1
  clear H1; replace H := Option.bind_eq_some_iff.mp H
  obtain ⟨⟨t335, t338, t339, t340⟩, A60, H⟩ := H
  try dsimp only at H
  have A6 := aM A60
  clear A60
  simp only [Option.some.injEq, Prod.mk.injEq] at H
  obtain ⟨rfl, rfl, rfl, rfl, rfl, rfl, rfl, rfl⟩ := H
  go_enter Tryd.func6, Tryd.ntmps6
  try go_wp2_with (first | ((with_reducible refine gate_dst (N := 2) rfl ?_); refine box_event ?hg (N := 2) ?hd (cs := #[.slice none 0 0, .int .i64 0, .int .i64 0, .string (⟨#[]⟩ : ByteArray)]) (t := 26) ?hr ?_; (case hd => rfl); (case hg => rfl); (case hr => first | (go_simp; done) | (go_simp; rfl)); intro gb317 hg w7 hbox hb; have n0_ := aM (below_step (by repeat (first | (with_reducible first | exact HB.out | apply aW1 | apply aW2 | apply aW3) | exact HB.out)) hb); have n1_ := aM (hbox); have n2_ := aM ((by rw [hg]; exact (below_size (by repeat (first | (with_reducible first | exact HB.out | apply aW1 | apply aW2 | apply aW3) | exact HB.out))) : w.heap.size ≤ gb317)); have n3_ := aM ((by rw [hg]; exact (below_size (by repeat (first | (with_reducible first | exact HB.out | apply aW1 | apply aW2 | apply aW3) | exact HB.out))) : w.heap.size ≤ gb317)); clear HB; have HB := n0_; have BK317 := n1_; have GW317 := n2_; have GE317 := n3_; clear n0_ n1_ n2_ n3_ hb hbox hg) | ((with_reducible refine gate_dst (N := 3) rfl ?_); refine box_event ?hg (N := 3) ?hd (cs := #[.slice none 0 0, .int .i64 0, .int .i64 0, .string (⟨#[]⟩ : ByteArray)]) (t := 26) ?hr ?_; (case hd => rfl); (case hg => rfl); (case hr => first | (go_simp; done) | (go_simp; rfl)); intro gb318 hg w8 hbox hb; have n0_ := bb BK317 hb; have n1_ := aM (below_step (by repeat (first | (with_reducible first | exact HB.out | apply aW1 | apply aW2 | apply aW3 | refine below_set ?_ GE317.out) | exact HB.out)) hb); have n2_ := aM (hbox); have n3_ := aM ((by rw [hg]; exact (below_size (by repeat (first | (with_reducible first | exact HB.out | apply aW1 | apply aW2 | apply aW3 | refine below_set ?_ GE317.out) | exact HB.out))) : w.heap.size ≤ gb318)); have n4_ := aM ((by rw [hg]; exact (below_size (by repeat (first | (with_reducible first | exact HB.out | apply aW1 | apply aW2 | apply aW3 | refine below_set ?_ GE317.out) | exact HB.out))) : w.heap.size ≤ gb318)); have n5_ := aM ((by rw [hg]; exact Nat.ne_of_lt (blk_lt (g := gb317) (aB BK317)) : gb317 ≠ gb318)); have n6_ := aM ((by rw [hg]; exact Nat.ne_of_gt (blk_lt (g := gb317) (aB BK317)) : gb318 ≠ gb317)); clear BK317 HB; have BK317 := n0_; have HB := n1_; have BK318 := n2_; have GW318 := n3_; have GE318 := n4_; have NB317_318 := n5_; have NB318_317 := n6_; clear n0_ n1_ n2_ n3_ n4_ n5_ n6_ hb hbox hg) | ((with_reducible refine gate_callee (f := 17) rfl ?_); refine goesL_ (some 7) rfl rfl Tryd.func17 (by kernel_rfl) rfl #[.slice A0 l0.length c0] rfl (by (try simp only [List.map_toArray, List.map_cons, List.map_nil]); first | done | rfl | (simp only [List.length_drop, List.length_take]; rfl)) ?_; (with_reducible refine (spec_l1New.calls k _ _ l0 t319 t320 t321 w _ ?side1 ?side2 ?side3 A2.out).mono ?_); (case side1 => repeat (first | (with_reducible first | exact HB.out | apply aW1 | apply aW2 | apply aW3 | refine below_set ?_ GE317.out | refine below_set ?_ GE318.out) | exact HB.out)); (case side2 => exact HR0.out); (case side3 => exact HC0.out); rintro e w9 ⟨g322, rfl, hi, hb, hb2⟩; refine ⟨_, rfl, ?_⟩; have n0_ := aM (blk_below (g := gb317) (aB BK317) hb2); have n1_ := aM (blk_below (g := gb318) (aB BK318) hb2); have n2_ := aM (hb); have n3_ := aM (hi); have n4_ := aM (IsS50.ne_blk hi (blk_below (g := gb317) (aB BK317) hb2) (by decide)); have n5_ := aM (Ne.symm (IsS50.ne_blk hi (blk_below (g := gb317) (aB BK317) hb2) (by decide))); have n6_ := aM (IsS50.ne_blk hi (blk_below (g := gb318) (aB BK318) hb2) (by decide)); have n7_ := aM (Ne.symm (IsS50.ne_blk hi (blk_below (g := gb318) (aB BK318) hb2) (by decide))); clear BK317 BK318 HB; have BK317 := n0_; have BK318 := n1_; have HB := n2_; have HI322 := n3_; have NB322_317 := n4_; have NB317_322 := n5_; have NB322_318 := n6_; have NB318_322 := n7_; clear n0_ n1_ n2_ n3_ n4_ n5_ n6_ n7_; (try clear hb); (try clear hb2); (try clear hk); (try clear hi)) | ((with_reducible refine gate_callee (f := 18) rfl ?_); refine goesL_ (some 9) rfl rfl Tryd.func18 (by kernel_rfl) rfl #[.pointer (some ⟨g322, 0, none⟩)] rfl (by (try simp only [List.map_toArray, List.map_cons, List.map_nil]); first | done | rfl | (simp only [List.length_drop, List.length_take]; rfl)) ?_; (with_reducible refine (spec_l4Any.calls k g322 t319 t320 t321 t323 t326 t327 t328 t329 t330 w _ ?side1 ?side2 A3.out).mono ?_); (case side1 => repeat (first | (with_reducible first | exact HI322.out | apply IsS50.alloc | apply IsS50.drewN | apply IsS50.drew | apply IsS50.set_1 | apply IsS50.set_2 | refine IsS50.far ?_ NB322_317.out _ | refine IsS50.far ?_ NB322_318.out _) | exact HI322.out)); (case side2 => repeat (first | (with_reducible first | exact HB.out | apply aW1 | apply aW2 | apply aW3 | refine below_set ?_ (IsS50.ge HI322.out) | refine below_set ?_ GE317.out | refine below_set ?_ GE318.out) | exact HB.out)); rintro e w10 ⟨v324, rfl, ho0, hi, hb, hk⟩; refine ⟨_, rfl, ?_⟩; have n0_ := aM (KeepBut.blk hk (g' := gb317) (aB BK317) NB317_322.out (by simp)); have n1_ := aM (KeepBut.blk hk (g' := gb318) (aB BK318) NB318_322.out (by simp)); have n2_ := aM (Kd.R_lower ho0 (below_size (by repeat (first | (with_reducible first | exact HB.out | apply aW1 | apply aW2 | apply aW3 | refine below_set ?_ (IsS50.ge HI322.out) | refine below_set ?_ GE317.out | refine below_set ?_ GE318.out) | exact HB.out)))); have n3_ := aM (hb); have n4_ := aM (hi); clear BK317 BK318 HB HI322; have BK317 := n0_; have BK318 := n1_; have HO325 := n2_; have HB := n3_; have HI322 := n4_; clear n0_ n1_ n2_ n3_ n4_; (try clear hb); (try clear hb2); (try clear hk); (try clear hi); (try clear ho0)) | ((with_reducible refine gate_dst (N := 5) rfl ?_); refine box_event ?hg (N := 5) ?hd (cs := #[.slice none 0 0, .int .i64 0, .int .i64 0, .string (⟨#[]⟩ : ByteArray)]) (t := 26) ?hr ?_; (case hd => rfl); (case hg => rfl); (case hr => first | (go_simp; done) | (go_simp; rfl)); intro gb331 hg w11 hbox hb; have n0_ := rb HO325 hb; have n1_ := bb BK317 hb; have n2_ := bb BK318 hb; have n3_ := aM (IsS50.below (by repeat (first | (with_reducible first | exact HI322.out | apply IsS50.alloc | apply IsS50.drewN | apply IsS50.drew | apply IsS50.set_1 | apply IsS50.set_2 | refine IsS50.far ?_ NB322_317.out _ | refine IsS50.far ?_ NB322_318.out _) | exact HI322.out)) hb); have n4_ := aM (below_step (by repeat (first | (with_reducible first | exact HB.out | apply aW1 | apply aW2 | apply aW3 | refine below_set ?_ (IsS50.ge HI322.out) | refine below_set ?_ GE317.out | refine below_set ?_ GE318.out) | exact HB.out)) hb); have n5_ := aM (hbox); have n6_ := aM ((by rw [hg]; exact (below_size (by repeat (first | (with_reducible first | exact HB.out | apply aW1 | apply aW2 | apply aW3 | refine below_set ?_ (IsS50.ge HI322.out) | refine below_set ?_ GE317.out | refine below_set ?_ GE318.out) | exact HB.out))) : w.heap.size ≤ gb331)); have n7_ := aM ((by rw [hg]; exact (below_size (by repeat (first | (with_reducible first | exact HB.out | apply aW1 | apply aW2 | apply aW3 | refine below_set ?_ (IsS50.ge HI322.out) | refine below_set ?_ GE317.out | refine below_set ?_ GE318.out) | exact HB.out))) : w.heap.size ≤ gb331)); have n8_ := aM ((by rw [hg]; exact Nat.ne_of_lt (blk_lt (g := gb317) (aB BK317)) : gb317 ≠ gb331)); have n9_ := aM ((by rw [hg]; exact Nat.ne_of_gt (blk_lt (g := gb317) (aB BK317)) : gb331 ≠ gb317)); have n10_ := aM ((by rw [hg]; exact Nat.ne_of_lt (blk_lt (g := gb318) (aB BK318)) : gb318 ≠ gb331)); have n11_ := aM ((by rw [hg]; exact Nat.ne_of_gt (blk_lt (g := gb318) (aB BK318)) : gb331 ≠ gb318)); have n12_ := aM ((by rw [hg]; exact Nat.ne_of_lt (IsS50.lt (show IsS50 w _ g322 t319 t329 t330 from by repeat (first | (with_reducible first | exact HI322.out | apply IsS50.alloc | apply IsS50.drewN | apply IsS50.drew | apply IsS50.set_1 | apply IsS50.set_2 | refine IsS50.far ?_ NB322_317.out _ | refine IsS50.far ?_ NB322_318.out _) | exact HI322.out))) : g322 ≠ gb331)); have n13_ := aM ((by rw [hg]; exact Nat.ne_of_gt (IsS50.lt (show IsS50 w _ g322 t319 t329 t330 from by repeat (first | (with_reducible first | exact HI322.out | apply IsS50.alloc | apply IsS50.drewN | apply IsS50.drew | apply IsS50.set_1 | apply IsS50.set_2 | refine IsS50.far ?_ NB322_317.out _ | refine IsS50.far ?_ NB322_318.out _) | exact HI322.out))) : gb331 ≠ g322)); clear HO325 BK317 BK318 HI322 HB; have HO325 := n0_; have BK317 := n1_; have BK318 := n2_; have HI322 := n3_; have HB := n4_; have BK331 := n5_; have GW331 := n6_; have GE331 := n7_; have NB317_331 := n8_; have NB331_317 := n9_; have NB318_331 := n10_; have NB331_318 := n11_; have NB322_331 := n12_; have NB331_322 := n13_; clear n0_ n1_ n2_ n3_ n4_ n5_ n6_ n7_ n8_ n9_ n10_ n11_ n12_ n13_ hb hbox hg; obtain ⟨Ao12, co12, eo12⟩ := Kd.R_slice HO325.out; subst eo12; have hnb13 := NB331_317.out; have hnc13 := NB317_331.out; have hnb14 := NB331_318.out; have hnc14 := NB318_331.out; have hnb15 := NB331_322.out; have hnc15 := NB322_331.out; have hcz16_0 := cz4_0 BK331; have hcz16_1 := cz4_1 BK331; have hcz16_2 := cz4_2 BK331; have hcz16_3 := cz4_3 BK331; have hfz16_0 := blk_frozen BK331.out 0; have hfz16_1 := blk_frozen BK331.out 1; have hfz16_2 := blk_frozen BK331.out 2; have hfz16_3 := blk_frozen BK331.out 3) | ((with_reducible refine gate_callee (f := 19) rfl ?_); refine goesL_ (some 11) rfl rfl Tryd.func19 (by kernel_rfl) rfl #[.pointer (some ⟨g322, 0, none⟩), .int .i64 2] rfl (by (try simp only [List.map_toArray, List.map_cons, List.map_nil]); first | done | rfl | (simp only [List.length_drop, List.length_take]; rfl)) ?_; (with_reducible refine (spec_l1Once.calls g322 t319 t329 t330 2 true t333 t334 w _ ?side1 ?side2 A4.out).mono ?_); (case side1 => repeat (first | (with_reducible first | exact HI322.out | apply IsS50.alloc | apply IsS50.drewN | apply IsS50.drew | apply IsS50.set_1 | apply IsS50.set_2 | refine IsS50.far ?_ NB322_317.out _ | refine IsS50.far ?_ NB322_318.out _ | refine IsS50.far ?_ NB322_331.out _) | exact HI322.out)); (case side2 => repeat (first | (with_reducible first | exact HB.out | apply aW1 | apply aW2 | apply aW3 | refine below_set ?_ (IsS50.ge HI322.out) | refine below_set ?_ GE317.out | refine below_set ?_ GE318.out | refine below_set ?_ GE331.out) | exact HB.out)); rintro e w17 ⟨rfl, hi, hb, hk⟩; refine ⟨_, rfl, ?_⟩; have n0_ := aM (KeepBut.blk hk (g' := gb317) (o := .cells #[.slice none 0 0, .int .i64 0, .int .i64 0, .string (⟨#[]⟩ : ByteArray)] 26 (0, 0)) (by (with_reducible repeat (first | refine aB1 ?_ _ | refine aB2 ?_ | refine aB3 ?_ _)); refine blk_far ?_ NB317_331.out _; (with_reducible repeat (first | refine aB1 ?_ _ | refine aB2 ?_ | refine aB3 ?_ _)); refine blk_far ?_ NB317_331.out _; (with_reducible repeat (first | refine aB1 ?_ _ | refine aB2 ?_ | refine aB3 ?_ _)); refine blk_far ?_ NB317_331.out _; (with_reducible repeat (first | refine aB1 ?_ _ | refine aB2 ?_ | refine aB3 ?_ _)); refine blk_far ?_ NB317_331.out _; (with_reducible repeat (first | refine aB1 ?_ _ | refine aB2 ?_ | refine aB3 ?_ _)); exact BK317.out) NB317_322.out (by simp)); have n1_ := aM (KeepBut.blk hk (g' := gb318) (o := .cells #[.slice none 0 0, .int .i64 0, .int .i64 0, .string (⟨#[]⟩ : ByteArray)] 26 (0, 0)) (by (with_reducible repeat (first | refine aB1 ?_ _ | refine aB2 ?_ | refine aB3 ?_ _)); refine blk_far ?_ NB318_331.out _; (with_reducible repeat (first | refine aB1 ?_ _ | refine aB2 ?_ | refine aB3 ?_ _)); refine blk_far ?_ NB318_331.out _; (with_reducible repeat (first | refine aB1 ?_ _ | refine aB2 ?_ | refine aB3 ?_ _)); refine blk_far ?_ NB318_331.out _; (with_reducible repeat (first | refine aB1 ?_ _ | refine aB2 ?_ | refine aB3 ?_ _)); refine blk_far ?_ NB318_331.out _; (with_reducible repeat (first | refine aB1 ?_ _ | refine aB2 ?_ | refine aB3 ?_ _)); exact BK318.out) NB318_322.out (by simp)); have n2_ := aM (Kd.R_mono (Kd.R_keep (IsS50.apart (show IsS50 w _ g322 t319 t329 t330 from by repeat (first | (with_reducible first | exact HI322.out | apply IsS50.alloc | apply IsS50.drewN | apply IsS50.drew | apply IsS50.set_1 | apply IsS50.set_2 | refine IsS50.far ?_ NB322_317.out _ | refine IsS50.far ?_ NB322_318.out _ | refine IsS50.far ?_ NB322_331.out _) | exact HI322.out)) (by (with_reducible repeat (first | apply aR1 | apply aR2 | apply aR3)); exact (Kd.R_mono (Kd.R_far (p := ⟨gb331, 3, none⟩) (Kd.R_far (p := ⟨gb331, 2, none⟩) (Kd.R_far (p := ⟨gb331, 1, none⟩) (Kd.R_far (p := ⟨gb331, 0, none⟩) (Kd.R_types HO325.out BK331.out (by decide)) (fun _ hk => hk.2) (.slice Ao12 t323.length co12)) (fun _ hk => hk.2) (.int .i64 t326)) (fun _ hk => hk.2) (.int .i64 t327)) (fun _ hk => hk.2) (.string t328)) (fun _ h_ => h_.1))) (by decide)) hk (fun _ h => h.2)) (fun _ h => h.1)); have n3_ := aM (KeepBut.blk hk (g' := gb331) (o := .cells #[.slice Ao12 t323.length co12, .int .i64 t326, .int .i64 t327, .string t328] 26 (0, 0)) (by (with_reducible repeat (first | refine aB1 ?_ _ | refine aB2 ?_ | refine aB3 ?_ _)); refine blk_put (cs := #[.slice Ao12 t323.length co12, .int .i64 t326, .int .i64 t327, .string (⟨#[]⟩ : ByteArray)]) ?_ 3 _ rfl; (with_reducible repeat (first | refine aB1 ?_ _ | refine aB2 ?_ | refine aB3 ?_ _)); refine blk_put (cs := #[.slice Ao12 t323.length co12, .int .i64 t326, .int .i64 0, .string (⟨#[]⟩ : ByteArray)]) ?_ 2 _ rfl; (with_reducible repeat (first | refine aB1 ?_ _ | refine aB2 ?_ | refine aB3 ?_ _)); refine blk_put (cs := #[.slice Ao12 t323.length co12, .int .i64 0, .int .i64 0, .string (⟨#[]⟩ : ByteArray)]) ?_ 1 _ rfl; (with_reducible repeat (first | refine aB1 ?_ _ | refine aB2 ?_ | refine aB3 ?_ _)); refine blk_put (cs := #[.slice none 0 0, .int .i64 0, .int .i64 0, .string (⟨#[]⟩ : ByteArray)]) ?_ 0 _ rfl; (with_reducible repeat (first | refine aB1 ?_ _ | refine aB2 ?_ | refine aB3 ?_ _)); exact BK331.out) NB331_322.out (by simp)); have n4_ := aM (hb); have n5_ := aM (hi); clear BK317 BK318 HO325 BK331 HB HI322; have BK317 := n0_; have BK318 := n1_; have HO325 := n2_; have BK331 := n3_; have HB := n4_; have HI322 := n5_; clear n0_ n1_ n2_ n3_ n4_ n5_; (try clear hb); (try clear hb2); (try clear hk); (try clear hi)))
  have n0_ := aM (Kd.R_drew HO325.out)
  have n1_ := aM (blk_drew BK317.out)
  have n2_ := aM (blk_drew BK318.out)
  have n3_ := aM (blk_drew BK331.out)
  have n4_ := aM (IsS50.drew HI322.out)
  have n5_ := aM (below_drew1 HB.out)
  clear HO325 BK317 BK318 BK331 HI322 HB; have HO325 := n0_; have BK317 := n1_; have BK318 := n2_; have BK331 := n3_; have HI322 := n4_; have HB := n5_; clear n0_ n1_ n2_ n3_ n4_ n5_
  refine start_ (n := 5) (S := fun w' => w'.cell? ⟨gb331, 0, none⟩ = some (.slice Ao12 t323.length co12) ∧ w'.cell? ⟨gb331, 1, none⟩ = some (.int .i64 t326) ∧ w'.cell? ⟨gb331, 2, none⟩ = some (.int .i64 t327) ∧ w'.cell? ⟨gb331, 3, none⟩ = some (.string t328)) (ds := []) (bz 5 0) (by kernel_rfl) rfl (by kernel_rfl) ⟨(blk_cell BK331.out 0).trans rfl, (blk_cell BK331.out 1).trans rfl, (blk_cell BK331.out 2).trans rfl, (blk_cell BK331.out 3).trans rfl⟩ (fun hHeld => ?_)
  generalize w17.drew = w18 at HO325 BK317 BK318 BK331 HI322 HB hHeld ⊢
  refine take_ (i := 0) (N := some 12) (v := ?_) (a' := ?_) (bz 5 1) rfl rfl (by kernel_rfl) (fun _ _ _ h => h) (Or.inl ⟨by rfl, ?_⟩) hHeld ?_ ?_
  rotate_left
  ·rintro w' ⟨s0, s1, s2, s3⟩
   go_simp
   with_reducible rfl
  rotate_left
  ·simp only [Act.put, List.setIfInBounds_toArray, List.set_cons_zero, List.set_cons_succ, i64_w, i32_w]
   rfl
  refine take_ (i := 1) (N := some 13) (v := ?_) (a' := ?_) (bz 5 3) rfl rfl (by kernel_rfl) (fun _ _ _ h => h) (Or.inl ⟨by rfl, ?_⟩) hHeld ?_ ?_
  rotate_left
  ·rintro w' ⟨s0, s1, s2, s3⟩
   go_simp
   with_reducible rfl
  rotate_left
  ·simp only [Act.put, List.setIfInBounds_toArray, List.set_cons_zero, List.set_cons_succ, i64_w, i32_w]
   rfl
  refine one_ (i := 2) (N := some 14) (bz 5 7) rfl rfl (by kernel_rfl) (by decide) (fun K hK => ?_)
  refine goes_ Tryd.func20 (by kernel_rfl) rfl #[.agg #[.slice Ao12 t323.length co12, .int .i64 t326, .int .i64 t327, .string t328]] (by rfl) rfl rfl (by (try simp only [List.map_toArray, List.map_cons, List.map_nil]); first | done | rfl | (simp only [List.length_drop, List.length_take]; rfl)) ?_
  with_reducible refine (spec_l4Copy.calls _ _ t323 t326 t327 t328 t335 t338 t339 t340 _ ?side1 ?side2 A6.out).mono ?_
  (case side1 => repeat (first | exact (Kd.R_reads' HO325.out).2.2 | (with_reducible refine Kd.C_alloc ?_ _) | (with_reducible refine Kd.C_drewN ?_ _) | (with_reducible refine Kd.C_drew ?_)))
  (case side2 => exact (Kd.R_reads' HO325.out).2.1)
  rintro e w19 ⟨v336, rfl, ho0, hb⟩
  refine ⟨_, rfl, ?_⟩
  have n0_ := aM (Kd.R_elder' (aR HO325) (Kd.R_base ho0) hb)
  have n1_ := aM (Kd.R_lower (Kd.R_new' ho0 (Kd.R_lt (aR HO325))) (below_size (by repeat (first | (with_reducible first | exact HB.out | apply aW1 | apply aW2 | apply aW3 | refine below_set ?_ (IsS50.ge HI322.out) | refine below_set ?_ GE317.out | refine below_set ?_ GE318.out | refine below_set ?_ GE331.out) | exact HB.out))))
  have n2_ := bb BK317 hb; have n3_ := bb BK318 hb
  have n4_ := aM (IsS50.below (by repeat (first | (with_reducible first | exact HI322.out | apply IsS50.alloc | apply IsS50.drewN | apply IsS50.drew | apply IsS50.set_1 | apply IsS50.set_2 | refine IsS50.far ?_ NB322_317.out _ | refine IsS50.far ?_ NB322_318.out _ | refine IsS50.far ?_ NB322_331.out _) | exact HI322.out)) hb)
  have n5_ := bb BK331 hb
  have n6_ := aM (below_step (by repeat (first | (with_reducible first | exact HB.out | apply aW1 | apply aW2 | apply aW3 | refine below_set ?_ (IsS50.ge HI322.out) | refine below_set ?_ GE317.out | refine below_set ?_ GE318.out | refine below_set ?_ GE331.out) | exact HB.out)) hb)
  clear HO325 BK317 BK318 HI322 BK331 HB; have HO325 := n0_; have HO337 := n1_; have BK317 := n2_; have BK318 := n3_; have HI322 := n4_; have BK331 := n5_; have HB := n6_; clear n0_ n1_ n2_ n3_ n4_ n5_ n6_
  (try clear hb)
  (try clear hb2)
  (try clear hk)
  (try clear hi)
  (try clear ho0)
  obtain ⟨Ao24, co24, eo24⟩ := Kd.R_slice HO337.out
  (first | subst eo24 | (injection eo24 with f1_ f2_ f3_; have f4_ := f1_.symm; have f5_ := f3_.symm; clear f1_ f2_ f3_; subst f4_; subst f5_))
  refine hK.out _ _ ⟨(blk_cell BK331.out 0).trans rfl, (blk_cell BK331.out 1).trans rfl, (blk_cell BK331.out 2).trans rfl, (blk_cell BK331.out 3).trans rfl⟩ (fun hHeld => ?_)
  clear hK K
  refine norm_ (a' := ?_) ?_ ?_
  rotate_left
  ·show Act.put _ (some 14) _ = _
   simp only [Act.put, List.setIfInBounds_toArray, List.set_cons_zero, List.set_cons_succ, i64_w, i32_w]
   rfl
  refine one_ (i := 3) (N := none) (bz 5 15) rfl rfl (by kernel_rfl) (by decide) (fun K hK => ?_)
  have hs20 : w19.cell? ⟨gb317, 0, none⟩ = some (.slice none 0 0) := (blk_cell BK317.out 0).trans rfl
  have hfs20 := blk_frozen BK317.out 0
  have hns20_1 := NB318_317.out
  have hns20_2 := NB331_317.out
  have hms20_1 := NB317_318.out
  have hms20_2 := NB317_331.out
  have hs21 : w19.cell? ⟨gb317, 1, none⟩ = some (.int .i64 0) := (blk_cell BK317.out 1).trans rfl
  have hfs21 := blk_frozen BK317.out 1
  have hns21_1 := NB318_317.out
  have hns21_2 := NB331_317.out
  have hms21_1 := NB317_318.out
  have hms21_2 := NB317_331.out
  have hs22 : w19.cell? ⟨gb317, 2, none⟩ = some (.int .i64 0) := (blk_cell BK317.out 2).trans rfl
  have hfs22 := blk_frozen BK317.out 2
  have hns22_1 := NB318_317.out
  have hns22_2 := NB331_317.out
  have hms22_1 := NB317_318.out
  have hms22_2 := NB317_331.out
  have hs23 : w19.cell? ⟨gb317, 3, none⟩ = some (.string (⟨#[]⟩ : ByteArray)) := (blk_cell BK317.out 3).trans rfl
  have hfs23 := blk_frozen BK317.out 3
  have hns23_1 := NB318_317.out
  have hns23_2 := NB331_317.out
  have hms23_1 := NB317_318.out
  have hms23_2 := NB317_331.out
  refine skip_ (w1 := ?_) (by rfl) rfl ?_ ?_
  rotate_left
  ·go_simp
   rfl
  refine hK.out _ _ ⟨((cell_far (p := ⟨gb317, _, none⟩) NB331_317.out _).trans (((cell_far (p := ⟨gb317, _, none⟩) NB331_317.out _).trans (((cell_far (p := ⟨gb317, _, none⟩) NB331_317.out _).trans (((cell_far (p := ⟨gb317, _, none⟩) NB331_317.out _).trans (hHeld.1)))))))), ((cell_far (p := ⟨gb317, _, none⟩) NB331_317.out _).trans (((cell_far (p := ⟨gb317, _, none⟩) NB331_317.out _).trans (((cell_far (p := ⟨gb317, _, none⟩) NB331_317.out _).trans (((cell_far (p := ⟨gb317, _, none⟩) NB331_317.out _).trans (hHeld.2.1)))))))), ((cell_far (p := ⟨gb317, _, none⟩) NB331_317.out _).trans (((cell_far (p := ⟨gb317, _, none⟩) NB331_317.out _).trans (((cell_far (p := ⟨gb317, _, none⟩) NB331_317.out _).trans (((cell_far (p := ⟨gb317, _, none⟩) NB331_317.out _).trans (hHeld.2.2.1)))))))), ((cell_far (p := ⟨gb317, _, none⟩) NB331_317.out _).trans (((cell_far (p := ⟨gb317, _, none⟩) NB331_317.out _).trans (((cell_far (p := ⟨gb317, _, none⟩) NB331_317.out _).trans (((cell_far (p := ⟨gb317, _, none⟩) NB331_317.out _).trans (hHeld.2.2.2))))))))⟩ (fun hHeld => ?_)
  clear hK K
  refine one_ (i := 4) (N := none) (bz 5 31) rfl rfl (by kernel_rfl) (by decide) (fun K hK => ?_)
  have hs25 : w19.cell? ⟨gb318, 0, none⟩ = some (.slice none 0 0) := (blk_cell BK318.out 0).trans rfl
  have hfs25 := blk_frozen BK318.out 0
  have hns25_0 := NB317_318.out
  have hns25_2 := NB331_318.out
  have hms25_0 := NB318_317.out
  have hms25_2 := NB318_331.out
  have hs26 : w19.cell? ⟨gb318, 1, none⟩ = some (.int .i64 0) := (blk_cell BK318.out 1).trans rfl
  have hfs26 := blk_frozen BK318.out 1
  have hns26_0 := NB317_318.out
  have hns26_2 := NB331_318.out
  have hms26_0 := NB318_317.out
  have hms26_2 := NB318_331.out
  have hs27 : w19.cell? ⟨gb318, 2, none⟩ = some (.int .i64 0) := (blk_cell BK318.out 2).trans rfl
  have hfs27 := blk_frozen BK318.out 2
  have hns27_0 := NB317_318.out
  have hns27_2 := NB331_318.out
  have hms27_0 := NB318_317.out
  have hms27_2 := NB318_331.out
  have hs28 : w19.cell? ⟨gb318, 3, none⟩ = some (.string (⟨#[]⟩ : ByteArray)) := (blk_cell BK318.out 3).trans rfl
  have hfs28 := blk_frozen BK318.out 3
  have hns28_0 := NB317_318.out
  have hns28_2 := NB331_318.out
  have hms28_0 := NB318_317.out
  have hms28_2 := NB318_331.out
  refine skip_ (w1 := ?_) (by rfl) rfl ?_ ?_
  rotate_left
  ·go_simp
   rfl
  refine hK.out _ _ ⟨((cell_far (p := ⟨gb318, _, none⟩) NB331_318.out _).trans (((cell_far (p := ⟨gb318, _, none⟩) NB331_318.out _).trans (((cell_far (p := ⟨gb318, _, none⟩) NB331_318.out _).trans (((cell_far (p := ⟨gb318, _, none⟩) NB331_318.out _).trans (hHeld.1)))))))), ((cell_far (p := ⟨gb318, _, none⟩) NB331_318.out _).trans (((cell_far (p := ⟨gb318, _, none⟩) NB331_318.out _).trans (((cell_far (p := ⟨gb318, _, none⟩) NB331_318.out _).trans (((cell_far (p := ⟨gb318, _, none⟩) NB331_318.out _).trans (hHeld.2.1)))))))), ((cell_far (p := ⟨gb318, _, none⟩) NB331_318.out _).trans (((cell_far (p := ⟨gb318, _, none⟩) NB331_318.out _).trans (((cell_far (p := ⟨gb318, _, none⟩) NB331_318.out _).trans (((cell_far (p := ⟨gb318, _, none⟩) NB331_318.out _).trans (hHeld.2.2.1)))))))), ((cell_far (p := ⟨gb318, _, none⟩) NB331_318.out _).trans (((cell_far (p := ⟨gb318, _, none⟩) NB331_318.out _).trans (((cell_far (p := ⟨gb318, _, none⟩) NB331_318.out _).trans (((cell_far (p := ⟨gb318, _, none⟩) NB331_318.out _).trans (hHeld.2.2.2))))))))⟩ (fun hHeld => ?_)
  clear hK K
  refine done_ (by kernel_rfl) ?_
  try go_wp2
  refine bodyPost_ret (results_cc rfl _ _ gb317 gb318 26 26 #[.slice Ao12 t323.length co12, .int .i64 t326, .int .i64 t327, .string t328] #[.slice Ao24 t335.length co24, .int .i64 t338, .int .i64 t339, .string t340] (0, 0) (0, 0) _ _ rfl (by (with_reducible repeat (first | refine aB1 ?_ _ | refine aB2 ?_ | refine aB3 ?_ _)); refine blk_far ?_ NB317_318.out _; (with_reducible repeat (first | refine aB1 ?_ _ | refine aB2 ?_ | refine aB3 ?_ _)); refine blk_far ?_ NB317_318.out _; (with_reducible repeat (first | refine aB1 ?_ _ | refine aB2 ?_ | refine aB3 ?_ _)); refine blk_far ?_ NB317_318.out _; (with_reducible repeat (first | refine aB1 ?_ _ | refine aB2 ?_ | refine aB3 ?_ _)); refine blk_far ?_ NB317_318.out _; (with_reducible repeat (first | refine aB1 ?_ _ | refine aB2 ?_ | refine aB3 ?_ _)); refine blk_put (cs := #[.slice Ao12 t323.length co12, .int .i64 t326, .int .i64 t327, .string (⟨#[]⟩ : ByteArray)]) ?_ 3 _ rfl; (with_reducible repeat (first | refine aB1 ?_ _ | refine aB2 ?_ | refine aB3 ?_ _)); refine blk_put (cs := #[.slice Ao12 t323.length co12, .int .i64 t326, .int .i64 0, .string (⟨#[]⟩ : ByteArray)]) ?_ 2 _ rfl; (with_reducible repeat (first | refine aB1 ?_ _ | refine aB2 ?_ | refine aB3 ?_ _)); refine blk_put (cs := #[.slice Ao12 t323.length co12, .int .i64 0, .int .i64 0, .string (⟨#[]⟩ : ByteArray)]) ?_ 1 _ rfl; (with_reducible repeat (first | refine aB1 ?_ _ | refine aB2 ?_ | refine aB3 ?_ _)); refine blk_put (cs := #[.slice none 0 0, .int .i64 0, .int .i64 0, .string (⟨#[]⟩ : ByteArray)]) ?_ 0 _ rfl; (with_reducible repeat (first | refine aB1 ?_ _ | refine aB2 ?_ | refine aB3 ?_ _)); exact BK317.out) Tryd.underlying26 rfl (by kernel_rfl) rfl (by (with_reducible repeat (first | refine aB1 ?_ _ | refine aB2 ?_ | refine aB3 ?_ _)); refine blk_put (cs := #[.slice Ao24 t335.length co24, .int .i64 t338, .int .i64 t339, .string (⟨#[]⟩ : ByteArray)]) ?_ 3 _ rfl; (with_reducible repeat (first | refine aB1 ?_ _ | refine aB2 ?_ | refine aB3 ?_ _)); refine blk_put (cs := #[.slice Ao24 t335.length co24, .int .i64 t338, .int .i64 0, .string (⟨#[]⟩ : ByteArray)]) ?_ 2 _ rfl; (with_reducible repeat (first | refine aB1 ?_ _ | refine aB2 ?_ | refine aB3 ?_ _)); refine blk_put (cs := #[.slice Ao24 t335.length co24, .int .i64 0, .int .i64 0, .string (⟨#[]⟩ : ByteArray)]) ?_ 1 _ rfl; (with_reducible repeat (first | refine aB1 ?_ _ | refine aB2 ?_ | refine aB3 ?_ _)); refine blk_put (cs := #[.slice none 0 0, .int .i64 0, .int .i64 0, .string (⟨#[]⟩ : ByteArray)]) ?_ 0 _ rfl; (with_reducible repeat (first | refine aB1 ?_ _ | refine aB2 ?_ | refine aB3 ?_ _)); refine blk_far ?_ NB318_317.out _; (with_reducible repeat (first | refine aB1 ?_ _ | refine aB2 ?_ | refine aB3 ?_ _)); refine blk_far ?_ NB318_317.out _; (with_reducible repeat (first | refine aB1 ?_ _ | refine aB2 ?_ | refine aB3 ?_ _)); refine blk_far ?_ NB318_317.out _; (with_reducible repeat (first | refine aB1 ?_ _ | refine aB2 ?_ | refine aB3 ?_ _)); refine blk_far ?_ NB318_317.out _; (with_reducible repeat (first | refine aB1 ?_ _ | refine aB2 ?_ | refine aB3 ?_ _)); exact BK318.out) Tryd.underlying26 rfl (by kernel_rfl)) rfl ?_
  exact ⟨_, _, by first | rfl | (simp [errW_none, errW_some] <;> rfl) | (simp [*, errW_none, errW_some] <;> rfl), by (with_reducible repeat (first | apply aR1 | apply aR2 | apply aR3)); exact Kd.R_mono (Kd.R_far (p := ⟨gb318, 3, none⟩) (Kd.R_far (p := ⟨gb318, 2, none⟩) (Kd.R_far (p := ⟨gb318, 1, none⟩) (Kd.R_far (p := ⟨gb318, 0, none⟩) (Kd.R_far (p := ⟨gb317, 3, none⟩) (Kd.R_far (p := ⟨gb317, 2, none⟩) (Kd.R_far (p := ⟨gb317, 1, none⟩) (Kd.R_far (p := ⟨gb317, 0, none⟩) (Kd.R_types (Kd.R_types HO325.out BK317.out (by decide)) BK318.out (by decide)) (fun _ hk => hk.1.2) (.slice Ao12 t323.length co12)) (fun _ hk => hk.1.2) (.int .i64 t326)) (fun _ hk => hk.1.2) (.int .i64 t327)) (fun _ hk => hk.1.2) (.string t328)) (fun _ hk => hk.2) (.slice Ao24 t335.length co24)) (fun _ hk => hk.2) (.int .i64 t338)) (fun _ hk => hk.2) (.int .i64 t339)) (fun _ hk => hk.2) (.string t340)) (fun _ hk => hk.1.1.2), by (with_reducible repeat (first | apply aR1 | apply aR2 | apply aR3)); exact Kd.R_mono (Kd.R_far (p := ⟨gb318, 3, none⟩) (Kd.R_far (p := ⟨gb318, 2, none⟩) (Kd.R_far (p := ⟨gb318, 1, none⟩) (Kd.R_far (p := ⟨gb318, 0, none⟩) (Kd.R_far (p := ⟨gb317, 3, none⟩) (Kd.R_far (p := ⟨gb317, 2, none⟩) (Kd.R_far (p := ⟨gb317, 1, none⟩) (Kd.R_far (p := ⟨gb317, 0, none⟩) (Kd.R_types (Kd.R_types HO337.out BK317.out (by decide)) BK318.out (by decide)) (fun _ hk => hk.1.2) (.slice Ao12 t323.length co12)) (fun _ hk => hk.1.2) (.int .i64 t326)) (fun _ hk => hk.1.2) (.int .i64 t327)) (fun _ hk => hk.1.2) (.string t328)) (fun _ hk => hk.2) (.slice Ao24 t335.length co24)) (fun _ hk => hk.2) (.int .i64 t338)) (fun _ hk => hk.2) (.int .i64 t339)) (fun _ hk => hk.2) (.string t340)) (fun _ hk => hk.1.1.2), by repeat (first | (with_reducible first | exact HB.out | apply aW1 | apply aW2 | apply aW3 | refine below_set ?_ (IsS50.ge HI322.out) | refine below_set ?_ GE317.out | refine below_set ?_ GE318.out | refine below_set ?_ GE331.out) | exact HB.out)⟩
 ·replace c5 := Bool.eq_false_iff.mpr c5
  subst c5
  have H1 : ((spec_l4Any.f k t319 t333 t334).bind fun bt341 => (some (t323, t326, t327, t328, bt341.1, bt341.2.1, bt341.2.2.1, bt341.2.2.2.1))) = some (r1, r2, r3, r4, r5, r6, r7, r8) := by rw [if_neg (show ¬ (false = true) by decide)] at H; exact H
  clear H
  have H := H1
  clear H1; replace H := Option.bind_eq_some_iff.mp H
  obtain ⟨⟨t341, t344, t345, t346, t347, t348⟩, A290, H⟩ := H
  try dsimp only at H
  have A29 := aM A290
  clear A290
  simp only [Option.some.injEq, Prod.mk.injEq] at H
  obtain ⟨rfl, rfl, rfl, rfl, rfl, rfl, rfl, rfl⟩ := H
  go_enter Tryd.func6, Tryd.ntmps6
  try go_wp2_with (first | ((with_reducible refine gate_dst (N := 2) rfl ?_); refine box_event ?hg (N := 2) ?hd (cs := #[.slice none 0 0, .int .i64 0, .int .i64 0, .string (⟨#[]⟩ : ByteArray)]) (t := 26) ?hr ?_; (case hd => rfl); (case hg => rfl); (case hr => first | (go_simp; done) | (go_simp; rfl)); intro gb317 hg w30 hbox hb; have n0_ := aM (below_step (by repeat (first | (with_reducible first | exact HB.out | apply aW1 | apply aW2 | apply aW3) | exact HB.out)) hb); have n1_ := aM (hbox); have n2_ := aM ((by rw [hg]; exact (below_size (by repeat (first | (with_reducible first | exact HB.out | apply aW1 | apply aW2 | apply aW3) | exact HB.out))) : w.heap.size ≤ gb317)); have n3_ := aM ((by rw [hg]; exact (below_size (by repeat (first | (with_reducible first | exact HB.out | apply aW1 | apply aW2 | apply aW3) | exact HB.out))) : w.heap.size ≤ gb317)); clear HB; have HB := n0_; have BK317 := n1_; have GW317 := n2_; have GE317 := n3_; clear n0_ n1_ n2_ n3_ hb hbox hg) | ((with_reducible refine gate_dst (N := 3) rfl ?_); refine box_event ?hg (N := 3) ?hd (cs := #[.slice none 0 0, .int .i64 0, .int .i64 0, .string (⟨#[]⟩ : ByteArray)]) (t := 26) ?hr ?_; (case hd => rfl); (case hg => rfl); (case hr => first | (go_simp; done) | (go_simp; rfl)); intro gb318 hg w31 hbox hb; have n0_ := bb BK317 hb; have n1_ := aM (below_step (by repeat (first | (with_reducible first | exact HB.out | apply aW1 | apply aW2 | apply aW3 | refine below_set ?_ GE317.out) | exact HB.out)) hb); have n2_ := aM (hbox); have n3_ := aM ((by rw [hg]; exact (below_size (by repeat (first | (with_reducible first | exact HB.out | apply aW1 | apply aW2 | apply aW3 | refine below_set ?_ GE317.out) | exact HB.out))) : w.heap.size ≤ gb318)); have n4_ := aM ((by rw [hg]; exact (below_size (by repeat (first | (with_reducible first | exact HB.out | apply aW1 | apply aW2 | apply aW3 | refine below_set ?_ GE317.out) | exact HB.out))) : w.heap.size ≤ gb318)); have n5_ := aM ((by rw [hg]; exact Nat.ne_of_lt (blk_lt (g := gb317) (aB BK317)) : gb317 ≠ gb318)); have n6_ := aM ((by rw [hg]; exact Nat.ne_of_gt (blk_lt (g := gb317) (aB BK317)) : gb318 ≠ gb317)); clear BK317 HB; have BK317 := n0_; have HB := n1_; have BK318 := n2_; have GW318 := n3_; have GE318 := n4_; have NB317_318 := n5_; have NB318_317 := n6_; clear n0_ n1_ n2_ n3_ n4_ n5_ n6_ hb hbox hg) | ((with_reducible refine gate_callee (f := 17) rfl ?_); refine goesL_ (some 7) rfl rfl Tryd.func17 (by kernel_rfl) rfl #[.slice A0 l0.length c0] rfl (by (try simp only [List.map_toArray, List.map_cons, List.map_nil]); first | done | rfl | (simp only [List.length_drop, List.length_take]; rfl)) ?_; (with_reducible refine (spec_l1New.calls k _ _ l0 t319 t320 t321 w _ ?side1 ?side2 ?side3 A2.out).mono ?_); (case side1 => repeat (first | (with_reducible first | exact HB.out | apply aW1 | apply aW2 | apply aW3 | refine below_set ?_ GE317.out | refine below_set ?_ GE318.out) | exact HB.out)); (case side2 => exact HR0.out); (case side3 => exact HC0.out); rintro e w32 ⟨g322, rfl, hi, hb, hb2⟩; refine ⟨_, rfl, ?_⟩; have n0_ := aM (blk_below (g := gb317) (aB BK317) hb2); have n1_ := aM (blk_below (g := gb318) (aB BK318) hb2); have n2_ := aM (hb); have n3_ := aM (hi); have n4_ := aM (IsS50.ne_blk hi (blk_below (g := gb317) (aB BK317) hb2) (by decide)); have n5_ := aM (Ne.symm (IsS50.ne_blk hi (blk_below (g := gb317) (aB BK317) hb2) (by decide))); have n6_ := aM (IsS50.ne_blk hi (blk_below (g := gb318) (aB BK318) hb2) (by decide)); have n7_ := aM (Ne.symm (IsS50.ne_blk hi (blk_below (g := gb318) (aB BK318) hb2) (by decide))); clear BK317 BK318 HB; have BK317 := n0_; have BK318 := n1_; have HB := n2_; have HI322 := n3_; have NB322_317 := n4_; have NB317_322 := n5_; have NB322_318 := n6_; have NB318_322 := n7_; clear n0_ n1_ n2_ n3_ n4_ n5_ n6_ n7_; (try clear hb); (try clear hb2); (try clear hk); (try clear hi)) | ((with_reducible refine gate_callee (f := 18) rfl ?_); refine goesL_ (some 9) rfl rfl Tryd.func18 (by kernel_rfl) rfl #[.pointer (some ⟨g322, 0, none⟩)] rfl (by (try simp only [List.map_toArray, List.map_cons, List.map_nil]); first | done | rfl | (simp only [List.length_drop, List.length_take]; rfl)) ?_; (with_reducible refine (spec_l4Any.calls k g322 t319 t320 t321 t323 t326 t327 t328 t329 t330 w _ ?side1 ?side2 A3.out).mono ?_); (case side1 => repeat (first | (with_reducible first | exact HI322.out | apply IsS50.alloc | apply IsS50.drewN | apply IsS50.drew | apply IsS50.set_1 | apply IsS50.set_2 | refine IsS50.far ?_ NB322_317.out _ | refine IsS50.far ?_ NB322_318.out _) | exact HI322.out)); (case side2 => repeat (first | (with_reducible first | exact HB.out | apply aW1 | apply aW2 | apply aW3 | refine below_set ?_ (IsS50.ge HI322.out) | refine below_set ?_ GE317.out | refine below_set ?_ GE318.out) | exact HB.out)); rintro e w33 ⟨v324, rfl, ho0, hi, hb, hk⟩; refine ⟨_, rfl, ?_⟩; have n0_ := aM (KeepBut.blk hk (g' := gb317) (aB BK317) NB317_322.out (by simp)); have n1_ := aM (KeepBut.blk hk (g' := gb318) (aB BK318) NB318_322.out (by simp)); have n2_ := aM (Kd.R_lower ho0 (below_size (by repeat (first | (with_reducible first | exact HB.out | apply aW1 | apply aW2 | apply aW3 | refine below_set ?_ (IsS50.ge HI322.out) | refine below_set ?_ GE317.out | refine below_set ?_ GE318.out) | exact HB.out)))); have n3_ := aM (hb); have n4_ := aM (hi); clear BK317 BK318 HB HI322; have BK317 := n0_; have BK318 := n1_; have HO325 := n2_; have HB := n3_; have HI322 := n4_; clear n0_ n1_ n2_ n3_ n4_; (try clear hb); (try clear hb2); (try clear hk); (try clear hi); (try clear ho0)) | ((with_reducible refine gate_dst (N := 5) rfl ?_); refine box_event ?hg (N := 5) ?hd (cs := #[.slice none 0 0, .int .i64 0, .int .i64 0, .string (⟨#[]⟩ : ByteArray)]) (t := 26) ?hr ?_; (case hd => rfl); (case hg => rfl); (case hr => first | (go_simp; done) | (go_simp; rfl)); intro gb331 hg w34 hbox hb; have n0_ := rb HO325 hb; have n1_ := bb BK317 hb; have n2_ := bb BK318 hb; have n3_ := aM (IsS50.below (by repeat (first | (with_reducible first | exact HI322.out | apply IsS50.alloc | apply IsS50.drewN | apply IsS50.drew | apply IsS50.set_1 | apply IsS50.set_2 | refine IsS50.far ?_ NB322_317.out _ | refine IsS50.far ?_ NB322_318.out _) | exact HI322.out)) hb); have n4_ := aM (below_step (by repeat (first | (with_reducible first | exact HB.out | apply aW1 | apply aW2 | apply aW3 | refine below_set ?_ (IsS50.ge HI322.out) | refine below_set ?_ GE317.out | refine below_set ?_ GE318.out) | exact HB.out)) hb); have n5_ := aM (hbox); have n6_ := aM ((by rw [hg]; exact (below_size (by repeat (first | (with_reducible first | exact HB.out | apply aW1 | apply aW2 | apply aW3 | refine below_set ?_ (IsS50.ge HI322.out) | refine below_set ?_ GE317.out | refine below_set ?_ GE318.out) | exact HB.out))) : w.heap.size ≤ gb331)); have n7_ := aM ((by rw [hg]; exact (below_size (by repeat (first | (with_reducible first | exact HB.out | apply aW1 | apply aW2 | apply aW3 | refine below_set ?_ (IsS50.ge HI322.out) | refine below_set ?_ GE317.out | refine below_set ?_ GE318.out) | exact HB.out))) : w.heap.size ≤ gb331)); have n8_ := aM ((by rw [hg]; exact Nat.ne_of_lt (blk_lt (g := gb317) (aB BK317)) : gb317 ≠ gb331)); have n9_ := aM ((by rw [hg]; exact Nat.ne_of_gt (blk_lt (g := gb317) (aB BK317)) : gb331 ≠ gb317)); have n10_ := aM ((by rw [hg]; exact Nat.ne_of_lt (blk_lt (g := gb318) (aB BK318)) : gb318 ≠ gb331)); have n11_ := aM ((by rw [hg]; exact Nat.ne_of_gt (blk_lt (g := gb318) (aB BK318)) : gb331 ≠ gb318)); have n12_ := aM ((by rw [hg]; exact Nat.ne_of_lt (IsS50.lt (show IsS50 w _ g322 t319 t329 t330 from by repeat (first | (with_reducible first | exact HI322.out | apply IsS50.alloc | apply IsS50.drewN | apply IsS50.drew | apply IsS50.set_1 | apply IsS50.set_2 | refine IsS50.far ?_ NB322_317.out _ | refine IsS50.far ?_ NB322_318.out _) | exact HI322.out))) : g322 ≠ gb331)); have n13_ := aM ((by rw [hg]; exact Nat.ne_of_gt (IsS50.lt (show IsS50 w _ g322 t319 t329 t330 from by repeat (first | (with_reducible first | exact HI322.out | apply IsS50.alloc | apply IsS50.drewN | apply IsS50.drew | apply IsS50.set_1 | apply IsS50.set_2 | refine IsS50.far ?_ NB322_317.out _ | refine IsS50.far ?_ NB322_318.out _) | exact HI322.out))) : gb331 ≠ g322)); clear HO325 BK317 BK318 HI322 HB; have HO325 := n0_; have BK317 := n1_; have BK318 := n2_; have HI322 := n3_; have HB := n4_; have BK331 := n5_; have GW331 := n6_; have GE331 := n7_; have NB317_331 := n8_; have NB331_317 := n9_; have NB318_331 := n10_; have NB331_318 := n11_; have NB322_331 := n12_; have NB331_322 := n13_; clear n0_ n1_ n2_ n3_ n4_ n5_ n6_ n7_ n8_ n9_ n10_ n11_ n12_ n13_ hb hbox hg; obtain ⟨Ao35, co35, eo35⟩ := Kd.R_slice HO325.out; subst eo35; have hnb36 := NB331_317.out; have hnc36 := NB317_331.out; have hnb37 := NB331_318.out; have hnc37 := NB318_331.out; have hnb38 := NB331_322.out; have hnc38 := NB322_331.out; have hcz39_0 := cz4_0 BK331; have hcz39_1 := cz4_1 BK331; have hcz39_2 := cz4_2 BK331; have hcz39_3 := cz4_3 BK331; have hfz39_0 := blk_frozen BK331.out 0; have hfz39_1 := blk_frozen BK331.out 1; have hfz39_2 := blk_frozen BK331.out 2; have hfz39_3 := blk_frozen BK331.out 3) | ((with_reducible refine gate_callee (f := 19) rfl ?_); refine goesL_ (some 11) rfl rfl Tryd.func19 (by kernel_rfl) rfl #[.pointer (some ⟨g322, 0, none⟩), .int .i64 2] rfl (by (try simp only [List.map_toArray, List.map_cons, List.map_nil]); first | done | rfl | (simp only [List.length_drop, List.length_take]; rfl)) ?_; (with_reducible refine (spec_l1Once.calls g322 t319 t329 t330 2 false t333 t334 w _ ?side1 ?side2 A4.out).mono ?_); (case side1 => repeat (first | (with_reducible first | exact HI322.out | apply IsS50.alloc | apply IsS50.drewN | apply IsS50.drew | apply IsS50.set_1 | apply IsS50.set_2 | refine IsS50.far ?_ NB322_317.out _ | refine IsS50.far ?_ NB322_318.out _ | refine IsS50.far ?_ NB322_331.out _) | exact HI322.out)); (case side2 => repeat (first | (with_reducible first | exact HB.out | apply aW1 | apply aW2 | apply aW3 | refine below_set ?_ (IsS50.ge HI322.out) | refine below_set ?_ GE317.out | refine below_set ?_ GE318.out | refine below_set ?_ GE331.out) | exact HB.out)); rintro e w40 ⟨rfl, hi, hb, hk⟩; refine ⟨_, rfl, ?_⟩; have n0_ := aM (KeepBut.blk hk (g' := gb317) (o := .cells #[.slice none 0 0, .int .i64 0, .int .i64 0, .string (⟨#[]⟩ : ByteArray)] 26 (0, 0)) (by (with_reducible repeat (first | refine aB1 ?_ _ | refine aB2 ?_ | refine aB3 ?_ _)); refine blk_far ?_ NB317_331.out _; (with_reducible repeat (first | refine aB1 ?_ _ | refine aB2 ?_ | refine aB3 ?_ _)); refine blk_far ?_ NB317_331.out _; (with_reducible repeat (first | refine aB1 ?_ _ | refine aB2 ?_ | refine aB3 ?_ _)); refine blk_far ?_ NB317_331.out _; (with_reducible repeat (first | refine aB1 ?_ _ | refine aB2 ?_ | refine aB3 ?_ _)); refine blk_far ?_ NB317_331.out _; (with_reducible repeat (first | refine aB1 ?_ _ | refine aB2 ?_ | refine aB3 ?_ _)); exact BK317.out) NB317_322.out (by simp)); have n1_ := aM (KeepBut.blk hk (g' := gb318) (o := .cells #[.slice none 0 0, .int .i64 0, .int .i64 0, .string (⟨#[]⟩ : ByteArray)] 26 (0, 0)) (by (with_reducible repeat (first | refine aB1 ?_ _ | refine aB2 ?_ | refine aB3 ?_ _)); refine blk_far ?_ NB318_331.out _; (with_reducible repeat (first | refine aB1 ?_ _ | refine aB2 ?_ | refine aB3 ?_ _)); refine blk_far ?_ NB318_331.out _; (with_reducible repeat (first | refine aB1 ?_ _ | refine aB2 ?_ | refine aB3 ?_ _)); refine blk_far ?_ NB318_331.out _; (with_reducible repeat (first | refine aB1 ?_ _ | refine aB2 ?_ | refine aB3 ?_ _)); refine blk_far ?_ NB318_331.out _; (with_reducible repeat (first | refine aB1 ?_ _ | refine aB2 ?_ | refine aB3 ?_ _)); exact BK318.out) NB318_322.out (by simp)); have n2_ := aM (Kd.R_mono (Kd.R_keep (IsS50.apart (show IsS50 w _ g322 t319 t329 t330 from by repeat (first | (with_reducible first | exact HI322.out | apply IsS50.alloc | apply IsS50.drewN | apply IsS50.drew | apply IsS50.set_1 | apply IsS50.set_2 | refine IsS50.far ?_ NB322_317.out _ | refine IsS50.far ?_ NB322_318.out _ | refine IsS50.far ?_ NB322_331.out _) | exact HI322.out)) (by (with_reducible repeat (first | apply aR1 | apply aR2 | apply aR3)); exact (Kd.R_mono (Kd.R_far (p := ⟨gb331, 3, none⟩) (Kd.R_far (p := ⟨gb331, 2, none⟩) (Kd.R_far (p := ⟨gb331, 1, none⟩) (Kd.R_far (p := ⟨gb331, 0, none⟩) (Kd.R_types HO325.out BK331.out (by decide)) (fun _ hk => hk.2) (.slice Ao35 t323.length co35)) (fun _ hk => hk.2) (.int .i64 t326)) (fun _ hk => hk.2) (.int .i64 t327)) (fun _ hk => hk.2) (.string t328)) (fun _ h_ => h_.1))) (by decide)) hk (fun _ h => h.2)) (fun _ h => h.1)); have n3_ := aM (KeepBut.blk hk (g' := gb331) (o := .cells #[.slice Ao35 t323.length co35, .int .i64 t326, .int .i64 t327, .string t328] 26 (0, 0)) (by (with_reducible repeat (first | refine aB1 ?_ _ | refine aB2 ?_ | refine aB3 ?_ _)); refine blk_put (cs := #[.slice Ao35 t323.length co35, .int .i64 t326, .int .i64 t327, .string (⟨#[]⟩ : ByteArray)]) ?_ 3 _ rfl; (with_reducible repeat (first | refine aB1 ?_ _ | refine aB2 ?_ | refine aB3 ?_ _)); refine blk_put (cs := #[.slice Ao35 t323.length co35, .int .i64 t326, .int .i64 0, .string (⟨#[]⟩ : ByteArray)]) ?_ 2 _ rfl; (with_reducible repeat (first | refine aB1 ?_ _ | refine aB2 ?_ | refine aB3 ?_ _)); refine blk_put (cs := #[.slice Ao35 t323.length co35, .int .i64 0, .int .i64 0, .string (⟨#[]⟩ : ByteArray)]) ?_ 1 _ rfl; (with_reducible repeat (first | refine aB1 ?_ _ | refine aB2 ?_ | refine aB3 ?_ _)); refine blk_put (cs := #[.slice none 0 0, .int .i64 0, .int .i64 0, .string (⟨#[]⟩ : ByteArray)]) ?_ 0 _ rfl; (with_reducible repeat (first | refine aB1 ?_ _ | refine aB2 ?_ | refine aB3 ?_ _)); exact BK331.out) NB331_322.out (by simp)); have n4_ := aM (hb); have n5_ := aM (hi); clear BK317 BK318 HO325 BK331 HB HI322; have BK317 := n0_; have BK318 := n1_; have HO325 := n2_; have BK331 := n3_; have HB := n4_; have HI322 := n5_; clear n0_ n1_ n2_ n3_ n4_ n5_; (try clear hb); (try clear hb2); (try clear hk); (try clear hi)))
  have n0_ := aM (Kd.R_drew HO325.out)
  have n1_ := aM (blk_drew BK317.out)
  have n2_ := aM (blk_drew BK318.out)
  have n3_ := aM (blk_drew BK331.out)
  have n4_ := aM (IsS50.drew HI322.out)
  have n5_ := aM (below_drew1 HB.out)
  clear HO325 BK317 BK318 BK331 HI322 HB; have HO325 := n0_; have BK317 := n1_; have BK318 := n2_; have BK331 := n3_; have HI322 := n4_; have HB := n5_; clear n0_ n1_ n2_ n3_ n4_ n5_
  refine start_ (n := 5) (S := fun w' => w'.cell? ⟨gb331, 0, none⟩ = some (.slice Ao35 t323.length co35) ∧ w'.cell? ⟨gb331, 1, none⟩ = some (.int .i64 t326) ∧ w'.cell? ⟨gb331, 2, none⟩ = some (.int .i64 t327) ∧ w'.cell? ⟨gb331, 3, none⟩ = some (.string t328)) (ds := []) (bz 5 0) (by kernel_rfl) rfl (by kernel_rfl) ⟨(blk_cell BK331.out 0).trans rfl, (blk_cell BK331.out 1).trans rfl, (blk_cell BK331.out 2).trans rfl, (blk_cell BK331.out 3).trans rfl⟩ (fun hHeld => ?_)
  generalize w40.drew = w41 at HO325 BK317 BK318 BK331 HI322 HB hHeld ⊢
  refine pure_ (i := 1) (N := some 16) (v := ?_) (a' := ?_) (bz 5 2) rfl rfl (by kernel_rfl) (fun _ _ _ h => h) (Or.inl ⟨by rfl, ?_⟩) ?_ ?_
  rotate_left
  ·intro w'
   go_simp
   with_reducible rfl
  rotate_left
  ·simp only [Act.put, List.setIfInBounds_toArray, List.set_cons_zero, List.set_cons_succ, i64_w, i32_w]
   rfl
  refine take_ (i := 0) (N := some 15) (v := ?_) (a' := ?_) (bz 5 3) rfl rfl (by kernel_rfl) (fun _ _ _ h => h) (Or.inl ⟨by rfl, ?_⟩) hHeld ?_ ?_
  rotate_left
  ·rintro w' ⟨s0, s1, s2, s3⟩
   go_simp
   with_reducible rfl
  rotate_left
  ·simp only [Act.put, List.setIfInBounds_toArray, List.set_cons_zero, List.set_cons_succ, i64_w, i32_w]
   rfl
  refine one_ (i := 2) (N := some 17) (bz 5 7) rfl rfl (by kernel_rfl) (by decide) (fun K hK => ?_)
  refine goes_ Tryd.func18 (by kernel_rfl) rfl #[.pointer (some ⟨g322, 0, none⟩)] (by rfl) rfl rfl (by (try simp only [List.map_toArray, List.map_cons, List.map_nil]); first | done | rfl | (simp only [List.length_drop, List.length_take]; rfl)) ?_
  with_reducible refine (spec_l4Any.calls k g322 t319 t333 t334 t341 t344 t345 t346 t347 t348 w _ ?side1 ?side2 A29.out).mono ?_
  (case side1 => repeat (first | (with_reducible first | exact HI322.out | apply IsS50.alloc | apply IsS50.drewN | apply IsS50.drew | apply IsS50.set_1 | apply IsS50.set_2 | refine IsS50.far ?_ NB322_317.out _ | refine IsS50.far ?_ NB322_318.out _ | refine IsS50.far ?_ NB322_331.out _) | exact HI322.out))
  (case side2 => repeat (first | (with_reducible first | exact HB.out | apply aW1 | apply aW2 | apply aW3 | refine below_set ?_ (IsS50.ge HI322.out) | refine below_set ?_ GE317.out | refine below_set ?_ GE318.out | refine below_set ?_ GE331.out) | exact HB.out))
  rintro e w42 ⟨v342, rfl, ho0, hi, hb, hk⟩
  refine ⟨_, rfl, ?_⟩
  have n0_ := aM (KeepBut.blk hk (g' := gb317) (aB BK317) NB317_322.out (by simp))
  have n1_ := aM (KeepBut.blk hk (g' := gb318) (aB BK318) NB318_322.out (by simp))
  have n2_ := aM (Kd.R_mono (Kd.R_told (Kd.R_oldK (IsS50.apart (show IsS50 w _ g322 t319 t333 t334 from by repeat (first | (with_reducible first | exact HI322.out | apply IsS50.alloc | apply IsS50.drewN | apply IsS50.drew | apply IsS50.set_1 | apply IsS50.set_2 | refine IsS50.far ?_ NB322_317.out _ | refine IsS50.far ?_ NB322_318.out _ | refine IsS50.far ?_ NB322_331.out _) | exact HI322.out)) (aR HO325) (by decide)) hk) (Kd.R_base ho0)) (fun _ h_ => h_.1))
  have n3_ := aM (KeepBut.blk hk (g' := gb331) (aB BK331) NB331_322.out (by simp))
  have n4_ := aM (Kd.R_lower (Kd.R_new' ho0 (Kd.R_lt (aR HO325))) (below_size (by repeat (first | (with_reducible first | exact HB.out | apply aW1 | apply aW2 | apply aW3 | refine below_set ?_ (IsS50.ge HI322.out) | refine below_set ?_ GE317.out | refine below_set ?_ GE318.out | refine below_set ?_ GE331.out) | exact HB.out))))
  have n5_ := aM (hb)
  have n6_ := aM (hi)
  clear BK317 BK318 HO325 BK331 HB HI322; have BK317 := n0_; have BK318 := n1_; have HO325 := n2_; have BK331 := n3_; have HO343 := n4_; have HB := n5_; have HI322 := n6_; clear n0_ n1_ n2_ n3_ n4_ n5_ n6_
  (try clear hb)
  (try clear hb2)
  (try clear hk)
  (try clear hi)
  (try clear ho0)
  obtain ⟨Ao47, co47, eo47⟩ := Kd.R_slice HO343.out
  (first | subst eo47 | (injection eo47 with f1_ f2_ f3_; have f4_ := f1_.symm; have f5_ := f3_.symm; clear f1_ f2_ f3_; subst f4_; subst f5_))
  refine hK.out _ _ ⟨(blk_cell BK331.out 0).trans rfl, (blk_cell BK331.out 1).trans rfl, (blk_cell BK331.out 2).trans rfl, (blk_cell BK331.out 3).trans rfl⟩ (fun hHeld => ?_)
  clear hK K
  refine norm_ (a' := ?_) ?_ ?_
  rotate_left
  ·show Act.put _ (some 17) _ = _
   simp only [Act.put, List.setIfInBounds_toArray, List.set_cons_zero, List.set_cons_succ, i64_w, i32_w]
   rfl
  refine one_ (i := 3) (N := none) (bz 5 15) rfl rfl (by kernel_rfl) (by decide) (fun K hK => ?_)
  have hs43 : w42.cell? ⟨gb317, 0, none⟩ = some (.slice none 0 0) := (blk_cell BK317.out 0).trans rfl
  have hfs43 := blk_frozen BK317.out 0
  have hns43_1 := NB318_317.out
  have hns43_2 := NB331_317.out
  have hms43_1 := NB317_318.out
  have hms43_2 := NB317_331.out
  have hs44 : w42.cell? ⟨gb317, 1, none⟩ = some (.int .i64 0) := (blk_cell BK317.out 1).trans rfl
  have hfs44 := blk_frozen BK317.out 1
  have hns44_1 := NB318_317.out
  have hns44_2 := NB331_317.out
  have hms44_1 := NB317_318.out
  have hms44_2 := NB317_331.out
  have hs45 : w42.cell? ⟨gb317, 2, none⟩ = some (.int .i64 0) := (blk_cell BK317.out 2).trans rfl
  have hfs45 := blk_frozen BK317.out 2
  have hns45_1 := NB318_317.out
  have hns45_2 := NB331_317.out
  have hms45_1 := NB317_318.out
  have hms45_2 := NB317_331.out
  have hs46 : w42.cell? ⟨gb317, 3, none⟩ = some (.string (⟨#[]⟩ : ByteArray)) := (blk_cell BK317.out 3).trans rfl
  have hfs46 := blk_frozen BK317.out 3
  have hns46_1 := NB318_317.out
  have hns46_2 := NB331_317.out
  have hms46_1 := NB317_318.out
  have hms46_2 := NB317_331.out
  refine skip_ (w1 := ?_) (by rfl) rfl ?_ ?_
  rotate_left
  ·go_simp
   rfl
  refine hK.out _ _ ⟨((cell_far (p := ⟨gb317, _, none⟩) NB331_317.out _).trans (((cell_far (p := ⟨gb317, _, none⟩) NB331_317.out _).trans (((cell_far (p := ⟨gb317, _, none⟩) NB331_317.out _).trans (((cell_far (p := ⟨gb317, _, none⟩) NB331_317.out _).trans (hHeld.1)))))))), ((cell_far (p := ⟨gb317, _, none⟩) NB331_317.out _).trans (((cell_far (p := ⟨gb317, _, none⟩) NB331_317.out _).trans (((cell_far (p := ⟨gb317, _, none⟩) NB331_317.out _).trans (((cell_far (p := ⟨gb317, _, none⟩) NB331_317.out _).trans (hHeld.2.1)))))))), ((cell_far (p := ⟨gb317, _, none⟩) NB331_317.out _).trans (((cell_far (p := ⟨gb317, _, none⟩) NB331_317.out _).trans (((cell_far (p := ⟨gb317, _, none⟩) NB331_317.out _).trans (((cell_far (p := ⟨gb317, _, none⟩) NB331_317.out _).trans (hHeld.2.2.1)))))))), ((cell_far (p := ⟨gb317, _, none⟩) NB331_317.out _).trans (((cell_far (p := ⟨gb317, _, none⟩) NB331_317.out _).trans (((cell_far (p := ⟨gb317, _, none⟩) NB331_317.out _).trans (((cell_far (p := ⟨gb317, _, none⟩) NB331_317.out _).trans (hHeld.2.2.2))))))))⟩ (fun hHeld => ?_)
  clear hK K
  refine one_ (i := 4) (N := none) (bz 5 31) rfl rfl (by kernel_rfl) (by decide) (fun K hK => ?_)
  have hs48 : w42.cell? ⟨gb318, 0, none⟩ = some (.slice none 0 0) := (blk_cell BK318.out 0).trans rfl
  have hfs48 := blk_frozen BK318.out 0
  have hns48_0 := NB317_318.out
  have hns48_2 := NB331_318.out
  have hms48_0 := NB318_317.out
  have hms48_2 := NB318_331.out
  have hs49 : w42.cell? ⟨gb318, 1, none⟩ = some (.int .i64 0) := (blk_cell BK318.out 1).trans rfl
  have hfs49 := blk_frozen BK318.out 1
  have hns49_0 := NB317_318.out
  have hns49_2 := NB331_318.out
  have hms49_0 := NB318_317.out
  have hms49_2 := NB318_331.out
  have hs50 : w42.cell? ⟨gb318, 2, none⟩ = some (.int .i64 0) := (blk_cell BK318.out 2).trans rfl
  have hfs50 := blk_frozen BK318.out 2
  have hns50_0 := NB317_318.out
  have hns50_2 := NB331_318.out
  have hms50_0 := NB318_317.out
  have hms50_2 := NB318_331.out
  have hs51 : w42.cell? ⟨gb318, 3, none⟩ = some (.string (⟨#[]⟩ : ByteArray)) := (blk_cell BK318.out 3).trans rfl
  have hfs51 := blk_frozen BK318.out 3
  have hns51_0 := NB317_318.out
  have hns51_2 := NB331_318.out
  have hms51_0 := NB318_317.out
  have hms51_2 := NB318_331.out
  refine skip_ (w1 := ?_) (by rfl) rfl ?_ ?_
  rotate_left
  ·go_simp
   rfl
  refine hK.out _ _ ⟨((cell_far (p := ⟨gb318, _, none⟩) NB331_318.out _).trans (((cell_far (p := ⟨gb318, _, none⟩) NB331_318.out _).trans (((cell_far (p := ⟨gb318, _, none⟩) NB331_318.out _).trans (((cell_far (p := ⟨gb318, _, none⟩) NB331_318.out _).trans (hHeld.1)))))))), ((cell_far (p := ⟨gb318, _, none⟩) NB331_318.out _).trans (((cell_far (p := ⟨gb318, _, none⟩) NB331_318.out _).trans (((cell_far (p := ⟨gb318, _, none⟩) NB331_318.out _).trans (((cell_far (p := ⟨gb318, _, none⟩) NB331_318.out _).trans (hHeld.2.1)))))))), ((cell_far (p := ⟨gb318, _, none⟩) NB331_318.out _).trans (((cell_far (p := ⟨gb318, _, none⟩) NB331_318.out _).trans (((cell_far (p := ⟨gb318, _, none⟩) NB331_318.out _).trans (((cell_far (p := ⟨gb318, _, none⟩) NB331_318.out _).trans (hHeld.2.2.1)))))))), ((cell_far (p := ⟨gb318, _, none⟩) NB331_318.out _).trans (((cell_far (p := ⟨gb318, _, none⟩) NB331_318.out _).trans (((cell_far (p := ⟨gb318, _, none⟩) NB331_318.out _).trans (((cell_far (p := ⟨gb318, _, none⟩) NB331_318.out _).trans (hHeld.2.2.2))))))))⟩ (fun hHeld => ?_)
  clear hK K
  refine done_ (by kernel_rfl) ?_
  try go_wp2
  refine bodyPost_ret (results_cc rfl _ _ gb317 gb318 26 26 #[.slice Ao35 t323.length co35, .int .i64 t326, .int .i64 t327, .string t328] #[.slice Ao47 t341.length co47, .int .i64 t344, .int .i64 t345, .string t346] (0, 0) (0, 0) _ _ rfl (by (with_reducible repeat (first | refine aB1 ?_ _ | refine aB2 ?_ | refine aB3 ?_ _)); refine blk_far ?_ NB317_318.out _; (with_reducible repeat (first | refine aB1 ?_ _ | refine aB2 ?_ | refine aB3 ?_ _)); refine blk_far ?_ NB317_318.out _; (with_reducible repeat (first | refine aB1 ?_ _ | refine aB2 ?_ | refine aB3 ?_ _)); refine blk_far ?_ NB317_318.out _; (with_reducible repeat (first | refine aB1 ?_ _ | refine aB2 ?_ | refine aB3 ?_ _)); refine blk_far ?_ NB317_318.out _; (with_reducible repeat (first | refine aB1 ?_ _ | refine aB2 ?_ | refine aB3 ?_ _)); refine blk_put (cs := #[.slice Ao35 t323.length co35, .int .i64 t326, .int .i64 t327, .string (⟨#[]⟩ : ByteArray)]) ?_ 3 _ rfl; (with_reducible repeat (first | refine aB1 ?_ _ | refine aB2 ?_ | refine aB3 ?_ _)); refine blk_put (cs := #[.slice Ao35 t323.length co35, .int .i64 t326, .int .i64 0, .string (⟨#[]⟩ : ByteArray)]) ?_ 2 _ rfl; (with_reducible repeat (first | refine aB1 ?_ _ | refine aB2 ?_ | refine aB3 ?_ _)); refine blk_put (cs := #[.slice Ao35 t323.length co35, .int .i64 0, .int .i64 0, .string (⟨#[]⟩ : ByteArray)]) ?_ 1 _ rfl; (with_reducible repeat (first | refine aB1 ?_ _ | refine aB2 ?_ | refine aB3 ?_ _)); refine blk_put (cs := #[.slice none 0 0, .int .i64 0, .int .i64 0, .string (⟨#[]⟩ : ByteArray)]) ?_ 0 _ rfl; (with_reducible repeat (first | refine aB1 ?_ _ | refine aB2 ?_ | refine aB3 ?_ _)); exact BK317.out) Tryd.underlying26 rfl (by kernel_rfl) rfl (by (with_reducible repeat (first | refine aB1 ?_ _ | refine aB2 ?_ | refine aB3 ?_ _)); refine blk_put (cs := #[.slice Ao47 t341.length co47, .int .i64 t344, .int .i64 t345, .string (⟨#[]⟩ : ByteArray)]) ?_ 3 _ rfl; (with_reducible repeat (first | refine aB1 ?_ _ | refine aB2 ?_ | refine aB3 ?_ _)); refine blk_put (cs := #[.slice Ao47 t341.length co47, .int .i64 t344, .int .i64 0, .string (⟨#[]⟩ : ByteArray)]) ?_ 2 _ rfl; (with_reducible repeat (first | refine aB1 ?_ _ | refine aB2 ?_ | refine aB3 ?_ _)); refine blk_put (cs := #[.slice Ao47 t341.length co47, .int .i64 0, .int .i64 0, .string (⟨#[]⟩ : ByteArray)]) ?_ 1 _ rfl; (with_reducible repeat (first | refine aB1 ?_ _ | refine aB2 ?_ | refine aB3 ?_ _)); refine blk_put (cs := #[.slice none 0 0, .int .i64 0, .int .i64 0, .string (⟨#[]⟩ : ByteArray)]) ?_ 0 _ rfl; (with_reducible repeat (first | refine aB1 ?_ _ | refine aB2 ?_ | refine aB3 ?_ _)); refine blk_far ?_ NB318_317.out _; (with_reducible repeat (first | refine aB1 ?_ _ | refine aB2 ?_ | refine aB3 ?_ _)); refine blk_far ?_ NB318_317.out _; (with_reducible repeat (first | refine aB1 ?_ _ | refine aB2 ?_ | refine aB3 ?_ _)); refine blk_far ?_ NB318_317.out _; (with_reducible repeat (first | refine aB1 ?_ _ | refine aB2 ?_ | refine aB3 ?_ _)); refine blk_far ?_ NB318_317.out _; (with_reducible repeat (first | refine aB1 ?_ _ | refine aB2 ?_ | refine aB3 ?_ _)); exact BK318.out) Tryd.underlying26 rfl (by kernel_rfl)) rfl ?_
  exact ⟨_, _, by first | rfl | (simp [errW_none, errW_some] <;> rfl) | (simp [*, errW_none, errW_some] <;> rfl), by (with_reducible repeat (first | apply aR1 | apply aR2 | apply aR3)); exact Kd.R_mono (Kd.R_far (p := ⟨gb318, 3, none⟩) (Kd.R_far (p := ⟨gb318, 2, none⟩) (Kd.R_far (p := ⟨gb318, 1, none⟩) (Kd.R_far (p := ⟨gb318, 0, none⟩) (Kd.R_far (p := ⟨gb317, 3, none⟩) (Kd.R_far (p := ⟨gb317, 2, none⟩) (Kd.R_far (p := ⟨gb317, 1, none⟩) (Kd.R_far (p := ⟨gb317, 0, none⟩) (Kd.R_types (Kd.R_types HO325.out BK317.out (by decide)) BK318.out (by decide)) (fun _ hk => hk.1.2) (.slice Ao35 t323.length co35)) (fun _ hk => hk.1.2) (.int .i64 t326)) (fun _ hk => hk.1.2) (.int .i64 t327)) (fun _ hk => hk.1.2) (.string t328)) (fun _ hk => hk.2) (.slice Ao47 t341.length co47)) (fun _ hk => hk.2) (.int .i64 t344)) (fun _ hk => hk.2) (.int .i64 t345)) (fun _ hk => hk.2) (.string t346)) (fun _ hk => hk.1.1.2), by (with_reducible repeat (first | apply aR1 | apply aR2 | apply aR3)); exact Kd.R_mono (Kd.R_far (p := ⟨gb318, 3, none⟩) (Kd.R_far (p := ⟨gb318, 2, none⟩) (Kd.R_far (p := ⟨gb318, 1, none⟩) (Kd.R_far (p := ⟨gb318, 0, none⟩) (Kd.R_far (p := ⟨gb317, 3, none⟩) (Kd.R_far (p := ⟨gb317, 2, none⟩) (Kd.R_far (p := ⟨gb317, 1, none⟩) (Kd.R_far (p := ⟨gb317, 0, none⟩) (Kd.R_types (Kd.R_types HO343.out BK317.out (by decide)) BK318.out (by decide)) (fun _ hk => hk.1.2) (.slice Ao35 t323.length co35)) (fun _ hk => hk.1.2) (.int .i64 t326)) (fun _ hk => hk.1.2) (.int .i64 t327)) (fun _ hk => hk.1.2) (.string t328)) (fun _ hk => hk.2) (.slice Ao47 t341.length co47)) (fun _ hk => hk.2) (.int .i64 t344)) (fun _ hk => hk.2) (.int .i64 t345)) (fun _ hk => hk.2) (.string t346)) (fun _ hk => hk.1.1.2), by repeat (first | (with_reducible first | exact HB.out | apply aW1 | apply aW2 | apply aW3 | refine below_set ?_ (IsS50.ge HI322.out) | refine below_set ?_ GE317.out | refine below_set ?_ GE318.out | refine below_set ?_ GE331.out) | exact HB.out)⟩

/-! ### spec_DrawOver: function 7 -/
def spec_DrawOver.f (k : Nat) (l0 : List Int) : Option ((List (S56)) × Int × Int × ByteArray × Int) := (spec_l1New.f k l0).bind fun bt350 => ((spec_l4Any.f k bt350.1 bt350.2.1 bt350.2.2).bind fun bt354 => ((spec_l1Int.f bt350.1 bt354.2.2.2.2.1 bt354.2.2.2.2.2 (([bt354.2.2.1, wrap64 (bt354.2.2.1 - (Int.tmod bt354.2.2.1 7)), 0, 10, (-1)] : List Int))).bind fun bt366 => (some (bt354.1, bt354.2.1, bt354.2.2.1, bt354.2.2.2.1, bt366.1))))
def spec_DrawOver.T3 : Bool × List (List Nat × List Nat) := (true, [([], []), ([], []), ([], []), ([2], [2]), ([], []), ([4], [4]), ([], []), ([6], [6]), ([7], [7]), ([5, 8], [5, 8]), ([3, 9], [3, 9]), ([1, 10], [1, 10]), ([0, 11, 0], [0]), ([11, 12, 0, 1, 2, 3, 4, 5, 6, 7, 8, 9, 10, 11, 12], [11])])
def spec_DrawOver.B3 : List Nat := [0, 0, 0, 4, 0, 16, 0, 64, 192, 496, 1020, 2046, 4095, 8191]
theorem spec_DrawOver.tab3 : rtab .any (opsOf Tryd.f7 3) = spec_DrawOver.T3 := by kernel_rfl
theorem spec_DrawOver.bits3 : waitsOk spec_DrawOver.T3.2 spec_DrawOver.B3 = true := by kernel_rfl
set_option maxHeartbeats 8000000 in
set_option maxRecDepth 100000 in
theorem spec_DrawOver.calls (k : Nat) (A0 : Option Addr) (c0 : Nat) (l0 : List Int) (r1 : List (S56)) (r2 : Int) (r3 : Int) (r4 : ByteArray) (r5 : Int) (w : World) (hr0 : Kd.C (Kd.int .u8) w A0 l0.length l0) (hc0 : l0.length ≤ c0) (h : spec_DrawOver.f k l0 = some (r1, r2, r3, r4, r5)) :
  Calls Tryd.prog 7 #[.slice A0 l0.length c0] w fun e w' => ∃ v0_ : Value, e = .returned (.tuple #[.agg #[v0_, .int .i64 r2, .int .i64 r3, .string r4], .int .i64 r5]) ∧ Kd.R k56 56 w' w.heap.size (fun _ => True) v0_ r1 ∧ Below w.heap.size w w' := by
 have hu26 := Tryd.underlying26
 have HR0 := aM hr0
 have HC0 := aM hc0
 clear hr0 hc0
 have HB := aM (Below.refl w.heap.size w)
 have H : ((spec_l1New.f k l0).bind fun bt350 => ((spec_l4Any.f k bt350.1 bt350.2.1 bt350.2.2).bind fun bt354 => ((spec_l1Int.f bt350.1 bt354.2.2.2.2.1 bt354.2.2.2.2.2 (([bt354.2.2.1, wrap64 (bt354.2.2.1 - (Int.tmod bt354.2.2.1 7)), 0, 10, (-1)] : List Int))).bind fun bt366 => (some (bt354.1, bt354.2.1, bt354.2.2.1, bt354.2.2.2.1, bt366.1))))) = some (r1, r2, r3, r4, r5) := h
 clear h; replace H := Option.bind_eq_some_iff.mp H
 obtain ⟨⟨t350, t351, t352⟩, A20, H⟩ := H
 try dsimp only at H
 have A2 := aM A20
 clear A20; replace H := Option.bind_eq_some_iff.mp H
 obtain ⟨⟨t354, t357, t358, t359, t360, t361⟩, A30, H⟩ := H
 try dsimp only at H
 have A3 := aM A30
 clear A30
 obtain ⟨y363, hy363⟩ : ∃ y_ : List Int, y_ = (([t358, wrap64 (t358 - (Int.tmod t358 7)), 0, 10, (-1)] : List Int)) := ⟨_, rfl⟩
 replace H : ((spec_l1Int.f t350 t360 t361 y363).bind fun bt366 => (some (t354, t357, t358, t359, bt366.1))) = some (r1, r2, r3, r4, r5) := by first | (rw [hy363]; with_reducible exact H) | (have H2_ := (Option.bind_some _ _).symm.trans H; rw [hy363]; with_reducible exact H2_) | (have H2_ := (Option.bind_some _ _).symm.trans H; with_reducible exact H2_) | with_reducible exact H | (rw [hy363]; exact H) | exact H
 have Ny363 := aM hy363
 clear hy363; replace H := Option.bind_eq_some_iff.mp H
 obtain ⟨⟨t366, t367, t368⟩, A40, H⟩ := H
 try dsimp only at H
 have A4 := aM A40
 clear A40
 simp only [Option.some.injEq, Prod.mk.injEq] at H
 obtain ⟨rfl, rfl, rfl, rfl, rfl⟩ := H
 go_enter Tryd.func7, Tryd.ntmps7
 try go_wp2_with (first | ((with_reducible refine gate_dst (N := 2) rfl ?_); refine box_event ?hg (N := 2) ?hd (cs := #[.slice none 0 0, .int .i64 0, .int .i64 0, .string (⟨#[]⟩ : ByteArray)]) (t := 26) ?hr ?_; (case hd => rfl); (case hg => rfl); (case hr => first | (go_simp; done) | (go_simp; rfl)); intro gb349 hg w5 hbox hb; have n0_ := aM (below_step (by repeat (first | (with_reducible first | exact HB.out | apply aW1 | apply aW2 | apply aW3) | exact HB.out)) hb); have n1_ := aM (hbox); have n2_ := aM ((by rw [hg]; exact (below_size (by repeat (first | (with_reducible first | exact HB.out | apply aW1 | apply aW2 | apply aW3) | exact HB.out))) : w.heap.size ≤ gb349)); have n3_ := aM ((by rw [hg]; exact (below_size (by repeat (first | (with_reducible first | exact HB.out | apply aW1 | apply aW2 | apply aW3) | exact HB.out))) : w.heap.size ≤ gb349)); clear HB; have HB := n0_; have BK349 := n1_; have GW349 := n2_; have GE349 := n3_; clear n0_ n1_ n2_ n3_ hb hbox hg) | ((with_reducible refine gate_callee (f := 17) rfl ?_); refine goesL_ (some 7) rfl rfl Tryd.func17 (by kernel_rfl) rfl #[.slice A0 l0.length c0] rfl (by (try simp only [List.map_toArray, List.map_cons, List.map_nil]); first | done | rfl | (simp only [List.length_drop, List.length_take]; rfl)) ?_; (with_reducible refine (spec_l1New.calls k _ _ l0 t350 t351 t352 w _ ?side1 ?side2 ?side3 A2.out).mono ?_); (case side1 => repeat (first | (with_reducible first | exact HB.out | apply aW1 | apply aW2 | apply aW3 | refine below_set ?_ GE349.out) | exact HB.out)); (case side2 => exact HR0.out); (case side3 => exact HC0.out); rintro e w6 ⟨g353, rfl, hi, hb, hb2⟩; refine ⟨_, rfl, ?_⟩; have n0_ := aM (blk_below (g := gb349) (aB BK349) hb2); have n1_ := aM (hb); have n2_ := aM (hi); have n3_ := aM (IsS50.ne_blk hi (blk_below (g := gb349) (aB BK349) hb2) (by decide)); have n4_ := aM (Ne.symm (IsS50.ne_blk hi (blk_below (g := gb349) (aB BK349) hb2) (by decide))); clear BK349 HB; have BK349 := n0_; have HB := n1_; have HI353 := n2_; have NB353_349 := n3_; have NB349_353 := n4_; clear n0_ n1_ n2_ n3_ n4_; (try clear hb); (try clear hb2); (try clear hk); (try clear hi)) | ((with_reducible refine gate_callee (f := 18) rfl ?_); refine goesL_ (some 9) rfl rfl Tryd.func18 (by kernel_rfl) rfl #[.pointer (some ⟨g353, 0, none⟩)] rfl (by (try simp only [List.map_toArray, List.map_cons, List.map_nil]); first | done | rfl | (simp only [List.length_drop, List.length_take]; rfl)) ?_; (with_reducible refine (spec_l4Any.calls k g353 t350 t351 t352 t354 t357 t358 t359 t360 t361 w _ ?side1 ?side2 A3.out).mono ?_); (case side1 => repeat (first | (with_reducible first | exact HI353.out | apply IsS50.alloc | apply IsS50.drewN | apply IsS50.drew | apply IsS50.set_1 | apply IsS50.set_2 | refine IsS50.far ?_ NB353_349.out _) | exact HI353.out)); (case side2 => repeat (first | (with_reducible first | exact HB.out | apply aW1 | apply aW2 | apply aW3 | refine below_set ?_ (IsS50.ge HI353.out) | refine below_set ?_ GE349.out) | exact HB.out)); rintro e w7 ⟨v355, rfl, ho0, hi, hb, hk⟩; refine ⟨_, rfl, ?_⟩; have n0_ := aM (KeepBut.blk hk (g' := gb349) (aB BK349) NB349_353.out (by simp)); have n1_ := aM (Kd.R_lower ho0 (below_size (by repeat (first | (with_reducible first | exact HB.out | apply aW1 | apply aW2 | apply aW3 | refine below_set ?_ (IsS50.ge HI353.out) | refine below_set ?_ GE349.out) | exact HB.out)))); have n2_ := aM (hb); have n3_ := aM (hi); clear BK349 HB HI353; have BK349 := n0_; have HO356 := n1_; have HB := n2_; have HI353 := n3_; clear n0_ n1_ n2_ n3_; (try clear hb); (try clear hb2); (try clear hk); (try clear hi); (try clear ho0)) | ((with_reducible refine gate_dst (N := 5) rfl ?_); refine box_event ?hg (N := 5) ?hd (cs := #[.slice none 0 0, .int .i64 0, .int .i64 0, .string (⟨#[]⟩ : ByteArray)]) (t := 26) ?hr ?_; (case hd => rfl); (case hg => rfl); (case hr => first | (go_simp; done) | (go_simp; rfl)); intro gb362 hg w8 hbox hb; have n0_ := rb HO356 hb; have n1_ := bb BK349 hb; have n2_ := aM (IsS50.below (by repeat (first | (with_reducible first | exact HI353.out | apply IsS50.alloc | apply IsS50.drewN | apply IsS50.drew | apply IsS50.set_1 | apply IsS50.set_2 | refine IsS50.far ?_ NB353_349.out _) | exact HI353.out)) hb); have n3_ := aM (below_step (by repeat (first | (with_reducible first | exact HB.out | apply aW1 | apply aW2 | apply aW3 | refine below_set ?_ (IsS50.ge HI353.out) | refine below_set ?_ GE349.out) | exact HB.out)) hb); have n4_ := aM (hbox); have n5_ := aM ((by rw [hg]; exact (below_size (by repeat (first | (with_reducible first | exact HB.out | apply aW1 | apply aW2 | apply aW3 | refine below_set ?_ (IsS50.ge HI353.out) | refine below_set ?_ GE349.out) | exact HB.out))) : w.heap.size ≤ gb362)); have n6_ := aM ((by rw [hg]; exact (below_size (by repeat (first | (with_reducible first | exact HB.out | apply aW1 | apply aW2 | apply aW3 | refine below_set ?_ (IsS50.ge HI353.out) | refine below_set ?_ GE349.out) | exact HB.out))) : w.heap.size ≤ gb362)); have n7_ := aM ((by rw [hg]; exact Nat.ne_of_lt (blk_lt (g := gb349) (aB BK349)) : gb349 ≠ gb362)); have n8_ := aM ((by rw [hg]; exact Nat.ne_of_gt (blk_lt (g := gb349) (aB BK349)) : gb362 ≠ gb349)); have n9_ := aM ((by rw [hg]; exact Nat.ne_of_lt (IsS50.lt (show IsS50 w _ g353 t350 t360 t361 from by repeat (first | (with_reducible first | exact HI353.out | apply IsS50.alloc | apply IsS50.drewN | apply IsS50.drew | apply IsS50.set_1 | apply IsS50.set_2 | refine IsS50.far ?_ NB353_349.out _) | exact HI353.out))) : g353 ≠ gb362)); have n10_ := aM ((by rw [hg]; exact Nat.ne_of_gt (IsS50.lt (show IsS50 w _ g353 t350 t360 t361 from by repeat (first | (with_reducible first | exact HI353.out | apply IsS50.alloc | apply IsS50.drewN | apply IsS50.drew | apply IsS50.set_1 | apply IsS50.set_2 | refine IsS50.far ?_ NB353_349.out _) | exact HI353.out))) : gb362 ≠ g353)); clear HO356 BK349 HI353 HB; have HO356 := n0_; have BK349 := n1_; have HI353 := n2_; have HB := n3_; have BK362 := n4_; have GW362 := n5_; have GE362 := n6_; have NB349_362 := n7_; have NB362_349 := n8_; have NB353_362 := n9_; have NB362_353 := n10_; clear n0_ n1_ n2_ n3_ n4_ n5_ n6_ n7_ n8_ n9_ n10_ hb hbox hg; obtain ⟨Ao9, co9, eo9⟩ := Kd.R_slice HO356.out; subst eo9; have hnb10 := NB362_349.out; have hnc10 := NB349_362.out; have hnb11 := NB362_353.out; have hnc11 := NB353_362.out; have hcz12_0 := cz4_0 BK362; have hcz12_1 := cz4_1 BK362; have hcz12_2 := cz4_2 BK362; have hcz12_3 := cz4_3 BK362; have hfz12_0 := blk_frozen BK362.out 0; have hfz12_1 := blk_frozen BK362.out 1; have hfz12_2 := blk_frozen BK362.out 2; have hfz12_3 := blk_frozen BK362.out 3))
 have n0_ : Aside0 (Kd.R k56 56 ((((w8.setCell ⟨gb362, 0, none⟩ (.slice Ao9 t354.length co9)).setCell ⟨gb362, 1, none⟩ (.int .i64 t357)).setCell ⟨gb362, 2, none⟩ (.int .i64 t358)).setCell ⟨gb362, 3, none⟩ (.string t359)) w.heap.size (fun _ => True) (.slice Ao9 t354.length co9) t354) := ⟨by (with_reducible repeat (first | apply aR1 | apply aR2 | apply aR3)); exact Kd.R_mono (Kd.R_far (p := ⟨gb362, 3, none⟩) (Kd.R_far (p := ⟨gb362, 2, none⟩) (Kd.R_far (p := ⟨gb362, 1, none⟩) (Kd.R_far (p := ⟨gb362, 0, none⟩) (Kd.R_types HO356.out BK362.out (by decide)) (fun _ hk => hk.2) (.slice Ao9 t354.length co9)) (fun _ hk => hk.2) (.int .i64 t357)) (fun _ hk => hk.2) (.int .i64 t358)) (fun _ hk => hk.2) (.string t359)) (fun _ hk => trivial)⟩
 have n1_ : Aside0 (((((w8.setCell ⟨gb362, 0, none⟩ (.slice Ao9 t354.length co9)).setCell ⟨gb362, 1, none⟩ (.int .i64 t357)).setCell ⟨gb362, 2, none⟩ (.int .i64 t358)).setCell ⟨gb362, 3, none⟩ (.string t359)).heap[gb349]? = some (.cells #[.slice none 0 0, .int .i64 0, .int .i64 0, .string (⟨#[]⟩ : ByteArray)] 26 (0, 0))) := ⟨by (with_reducible repeat (first | refine aB1 ?_ _ | refine aB2 ?_ | refine aB3 ?_ _)); refine blk_far ?_ NB349_362.out _; (with_reducible repeat (first | refine aB1 ?_ _ | refine aB2 ?_ | refine aB3 ?_ _)); refine blk_far ?_ NB349_362.out _; (with_reducible repeat (first | refine aB1 ?_ _ | refine aB2 ?_ | refine aB3 ?_ _)); refine blk_far ?_ NB349_362.out _; (with_reducible repeat (first | refine aB1 ?_ _ | refine aB2 ?_ | refine aB3 ?_ _)); refine blk_far ?_ NB349_362.out _; (with_reducible repeat (first | refine aB1 ?_ _ | refine aB2 ?_ | refine aB3 ?_ _)); exact BK349.out⟩
 have n2_ : Aside0 (((((w8.setCell ⟨gb362, 0, none⟩ (.slice Ao9 t354.length co9)).setCell ⟨gb362, 1, none⟩ (.int .i64 t357)).setCell ⟨gb362, 2, none⟩ (.int .i64 t358)).setCell ⟨gb362, 3, none⟩ (.string t359)).heap[gb362]? = some (.cells #[.slice Ao9 t354.length co9, .int .i64 t357, .int .i64 t358, .string t359] 26 (0, 0))) := ⟨by (with_reducible repeat (first | refine aB1 ?_ _ | refine aB2 ?_ | refine aB3 ?_ _)); refine blk_put (cs := #[.slice Ao9 t354.length co9, .int .i64 t357, .int .i64 t358, .string (⟨#[]⟩ : ByteArray)]) ?_ 3 _ rfl; (with_reducible repeat (first | refine aB1 ?_ _ | refine aB2 ?_ | refine aB3 ?_ _)); refine blk_put (cs := #[.slice Ao9 t354.length co9, .int .i64 t357, .int .i64 0, .string (⟨#[]⟩ : ByteArray)]) ?_ 2 _ rfl; (with_reducible repeat (first | refine aB1 ?_ _ | refine aB2 ?_ | refine aB3 ?_ _)); refine blk_put (cs := #[.slice Ao9 t354.length co9, .int .i64 0, .int .i64 0, .string (⟨#[]⟩ : ByteArray)]) ?_ 1 _ rfl; (with_reducible repeat (first | refine aB1 ?_ _ | refine aB2 ?_ | refine aB3 ?_ _)); refine blk_put (cs := #[.slice none 0 0, .int .i64 0, .int .i64 0, .string (⟨#[]⟩ : ByteArray)]) ?_ 0 _ rfl; (with_reducible repeat (first | refine aB1 ?_ _ | refine aB2 ?_ | refine aB3 ?_ _)); exact BK362.out⟩
 have n3_ : Aside0 (IsS50 w ((((w8.setCell ⟨gb362, 0, none⟩ (.slice Ao9 t354.length co9)).setCell ⟨gb362, 1, none⟩ (.int .i64 t357)).setCell ⟨gb362, 2, none⟩ (.int .i64 t358)).setCell ⟨gb362, 3, none⟩ (.string t359)) g353 t350 t360 t361) := ⟨by repeat (first | (with_reducible first | exact HI353.out | apply IsS50.alloc | apply IsS50.drewN | apply IsS50.drew | apply IsS50.set_1 | apply IsS50.set_2 | refine IsS50.far ?_ NB353_349.out _ | refine IsS50.far ?_ NB353_362.out _) | exact HI353.out)⟩
 have n4_ : Aside0 (Below w.heap.size w ((((w8.setCell ⟨gb362, 0, none⟩ (.slice Ao9 t354.length co9)).setCell ⟨gb362, 1, none⟩ (.int .i64 t357)).setCell ⟨gb362, 2, none⟩ (.int .i64 t358)).setCell ⟨gb362, 3, none⟩ (.string t359))) := ⟨by repeat (first | (with_reducible first | exact HB.out | apply aW1 | apply aW2 | apply aW3 | refine below_set ?_ (IsS50.ge HI353.out) | refine below_set ?_ GE349.out | refine below_set ?_ GE362.out) | exact HB.out)⟩
 (try clear HO356)
 (try clear BK349)
 (try clear BK362)
 (try clear HI353)
 (try clear HB)
 generalize ((((w8.setCell ⟨gb362, 0, none⟩ (.slice Ao9 t354.length co9)).setCell ⟨gb362, 1, none⟩ (.int .i64 t357)).setCell ⟨gb362, 2, none⟩ (.int .i64 t358)).setCell ⟨gb362, 3, none⟩ (.string t359)) = w13 at n0_ n1_ n2_ n3_ n4_ ⊢
 have HO356 := n0_; have BK349 := n1_; have BK362 := n2_; have HI353 := n3_; have HB := n4_; clear n0_ n1_ n2_ n3_ n4_
 have n0_ := aM (Kd.R_drew HO356.out)
 have n1_ := aM (blk_drew BK349.out)
 have n2_ := aM (blk_drew BK362.out)
 have n3_ := aM (IsS50.drew HI353.out)
 have n4_ := aM (below_drew1 HB.out)
 clear HO356 BK349 BK362 HI353 HB; have HO356 := n0_; have BK349 := n1_; have BK362 := n2_; have HI353 := n3_; have HB := n4_; clear n0_ n1_ n2_ n3_ n4_
 refine start_ (n := 14) (S := fun w' => w'.cell? ⟨gb362, 0, none⟩ = some (.slice Ao9 t354.length co9) ∧ w'.cell? ⟨gb362, 1, none⟩ = some (.int .i64 t357) ∧ w'.cell? ⟨gb362, 2, none⟩ = some (.int .i64 t358) ∧ w'.cell? ⟨gb362, 3, none⟩ = some (.string t359)) (ds := []) (bz 14 0) (by kernel_rfl) rfl (by kernel_rfl) ⟨(blk_cell BK362.out 0).trans rfl, (blk_cell BK362.out 1).trans rfl, (blk_cell BK362.out 2).trans rfl, (blk_cell BK362.out 3).trans rfl⟩ (fun hHeld => ?_); refine with_tabW spec_DrawOver.tab3 spec_DrawOver.bits3 (fun HT_ HW_ => ?_)
 generalize w13.drew = w14 at HO356 BK349 BK362 HI353 HB hHeld ⊢
 refine (pu 1 (some 11) 2 ?_ ?_ HT_ rfl rfl (by kernel_rfl) (fun _ _ _ h => h) ?_ ?_ ?_ (pu 2 (some 12) 6 ?_ ?_ HT_ rfl rfl (by kernel_rfl) (fun _ _ _ h => h) ?_ ?_ ?_ (pu 4 (some 14) 22 ?_ ?_ HT_ rfl rfl (by kernel_rfl) (fun _ _ _ h => h) ?_ ?_ ?_ (pu 6 (some 16) 86 ?_ ?_ HT_ rfl rfl (by kernel_rfl) (fun _ _ _ h => h) ?_ ?_ ?_ (tk 0 (some 10) 87 ?_ ?_ HT_ HW_ rfl rfl (by kernel_rfl) (fun _ _ _ h => h) hHeld ?_ ?_ ?_ (tk 3 (some 13) 95 ?_ ?_ HT_ HW_ rfl rfl (by kernel_rfl) (fun _ _ _ h => h) hHeld ?_ ?_ ?_ (tk 5 (some 15) 127 ?_ ?_ HT_ HW_ rfl rfl (by kernel_rfl) (fun _ _ _ h => h) hHeld ?_ ?_ ?_ (tk 7 (some 17) 255 ?_ ?_ HT_ HW_ rfl rfl (by kernel_rfl) (fun _ _ _ h => h) hHeld ?_ ?_ ?_ (pu 8 (some 18) 511 ?_ ?_ HT_ rfl rfl (by kernel_rfl) (fun _ _ _ h => h) ?_ ?_ ?_ (pu 9 (some 19) 1023 ?_ ?_ HT_ rfl rfl (by kernel_rfl) (fun _ _ _ h => h) ?_ ?_ ?_ ?_))))))))))
 all_goals first | (rintro w' ⟨s0, s1, s2, s3⟩; go_simp; with_reducible rfl) | (intro w'; go_simp; with_reducible rfl) | (simp only [Act.put, List.setIfInBounds_toArray, List.set_cons_zero, List.set_cons_succ, i64_w, i32_w]; rfl) | rfl | skip
 refine one_ (i := 10) (N := some 20) (bz 14 2047) rfl rfl (one_of HT_.out (by kernel_rfl)) (by decide) (fun K hK => ?_)
 refine Kd.R_lit_step (Kd.int .i64) _ 3 ?hg (N := 20) ?hd (xs := ([t358, wrap64 (t358 - (Int.tmod t358 7)), 0, 10, (-1)] : List Int)) (inner := [.int .i64 t358, .int .i64 (wrap64 (t358 - (Int.tmod t358 7))), .int .i64 0, .int .i64 10, .int .i64 (-1)]) (ok := fun _ => True) (okp := fun _ => True) ?hr ?hp (fun _ hk => hk) trivial (Below.refl _ _) (Nat.le_refl _) (by simp) ?_; (case hd => rfl); (case hg => rfl); (case hr => first | (go_simp; done) | (go_simp; rfl)); (case hp => exact (Reps.one (show Kd.M (Kd.int .i64) _ _ _ t358 [.int .i64 t358] from rfl) (Reps.one (show Kd.M (Kd.int .i64) _ _ _ (wrap64 (t358 - (Int.tmod t358 7))) [.int .i64 (wrap64 (t358 - (Int.tmod t358 7)))] from rfl) (Reps.one (show Kd.M (Kd.int .i64) _ _ _ 0 [.int .i64 0] from rfl) (Reps.one (show Kd.M (Kd.int .i64) _ _ _ 10 [.int .i64 10] from rfl) (Reps.one (show Kd.M (Kd.int .i64) _ _ _ (-1) [.int .i64 (-1)] from rfl) (Reps.none _ _)))))))
 intro v364 w15 ho16 hb hg_ hnew_
 clear hg_ hnew_
 (first | rw [← Ny363.out] at ho16 | (simp only [Int.reduceToNat] at ho16; rw [← Ny363.out] at ho16))
 have n0_ := rb HO356 hb
 have n1_ := aM (Kd.R_lower ho16 (below_size (by repeat (first | (with_reducible first | exact HB.out | apply aW1 | apply aW2 | apply aW3 | refine below_set ?_ (IsS50.ge HI353.out) | refine below_set ?_ GE349.out | refine below_set ?_ GE362.out) | exact HB.out))))
 have n2_ := bb BK349 hb
 have n3_ := aM (IsS50.below (by repeat (first | (with_reducible first | exact HI353.out | apply IsS50.alloc | apply IsS50.drewN | apply IsS50.drew | apply IsS50.set_1 | apply IsS50.set_2 | refine IsS50.far ?_ NB353_349.out _ | refine IsS50.far ?_ NB353_362.out _) | exact HI353.out)) hb)
 have n4_ := bb BK362 hb
 have n5_ := aM (below_step (by repeat (first | (with_reducible first | exact HB.out | apply aW1 | apply aW2 | apply aW3 | refine below_set ?_ (IsS50.ge HI353.out) | refine below_set ?_ GE349.out | refine below_set ?_ GE362.out) | exact HB.out)) hb)
 clear HO356 BK349 HI353 BK362 HB; have HO356 := n0_; have HO365 := n1_; have BK349 := n2_; have HI353 := n3_; have BK362 := n4_; have HB := n5_; clear n0_ n1_ n2_ n3_ n4_ n5_ hb ho16
 obtain ⟨Ao17, co17, eo17⟩ := Kd.R_slice HO365.out
 (first | subst eo17 | (injection eo17 with f1_ f2_ f3_; have f4_ := f1_.symm; have f5_ := f3_.symm; clear f1_ f2_ f3_; subst f4_; subst f5_))
 refine hK.out _ _ ⟨(blk_cell BK362.out 0).trans rfl, (blk_cell BK362.out 1).trans rfl, (blk_cell BK362.out 2).trans rfl, (blk_cell BK362.out 3).trans rfl⟩ (fun hHeld => ?_)
 clear hK K
 refine norm_ (a' := ?_) ?_ ?_
 rotate_left
 ·show Act.put _ (some 20) _ = _
  simp only [Act.put, List.setIfInBounds_toArray, List.set_cons_zero, List.set_cons_succ, i64_w, i32_w]
  rfl
 refine one_ (i := 11) (N := some 21) (bz 14 4095) rfl rfl (one_of HT_.out (by kernel_rfl)) (by decide) (fun K hK => ?_)
 refine goes_ Tryd.func21 (by kernel_rfl) rfl #[.pointer (some ⟨g353, 0, none⟩), .slice Ao17 y363.length co17] (by rfl) rfl rfl (by (try simp only [List.map_toArray, List.map_cons, List.map_nil]); first | done | rfl | (simp only [List.length_drop, List.length_take]; rfl)) ?_
 with_reducible refine (spec_l1Int.calls g353 t350 t360 t361 _ _ y363 t366 t367 t368 w _ ?side1 ?side2 ?side3 ?side4 ?side5 A4.out).mono ?_
 (case side1 => repeat (first | (with_reducible first | exact HI353.out | apply IsS50.alloc | apply IsS50.drewN | apply IsS50.drew | apply IsS50.set_1 | apply IsS50.set_2 | refine IsS50.far ?_ NB353_349.out _ | refine IsS50.far ?_ NB353_362.out _) | exact HI353.out))
 (case side2 => repeat (first | (with_reducible first | exact HB.out | apply aW1 | apply aW2 | apply aW3 | refine below_set ?_ (IsS50.ge HI353.out) | refine below_set ?_ GE349.out | refine below_set ?_ GE362.out) | exact HB.out))
 (case side3 => repeat (first | exact (Kd.R_reads' HO365.out).2.2 | (with_reducible refine Kd.C_alloc ?_ _) | (with_reducible refine Kd.C_drewN ?_ _) | (with_reducible refine Kd.C_drew ?_)))
 (case side4 => exact (Kd.R_reads' HO365.out).2.1)
 (case side5 => exact far_slice (IsS50.own_ne HI353.out HO365.out (by decide)))
 rintro e w18 ⟨rfl, hi, hb, hk⟩
 refine ⟨_, rfl, ?_⟩
 have n0_ := aM (KeepBut.blk hk (g' := gb349) (aB BK349) NB349_353.out (by simp))
 have n1_ := aM (Kd.R_mono (Kd.R_keep (IsS50.apart (show IsS50 w _ g353 t350 t360 t361 from by repeat (first | (with_reducible first | exact HI353.out | apply IsS50.alloc | apply IsS50.drewN | apply IsS50.drew | apply IsS50.set_1 | apply IsS50.set_2 | refine IsS50.far ?_ NB353_349.out _ | refine IsS50.far ?_ NB353_362.out _) | exact HI353.out)) (aR HO356) (by decide)) hk (fun _ h => h.2)) (fun _ h => h.1))
 have n2_ := aM (KeepBut.blk hk (g' := gb362) (aB BK362) NB362_353.out (by simp))
 have n3_ := aM (Kd.R_mono (Kd.R_keep (IsS50.apart (show IsS50 w _ g353 t350 t360 t361 from by repeat (first | (with_reducible first | exact HI353.out | apply IsS50.alloc | apply IsS50.drewN | apply IsS50.drew | apply IsS50.set_1 | apply IsS50.set_2 | refine IsS50.far ?_ NB353_349.out _ | refine IsS50.far ?_ NB353_362.out _) | exact HI353.out)) (aR HO365) (by decide)) hk (fun _ h => h.2)) (fun _ h => h.1))
 have n4_ := aM (hb)
 have n5_ := aM (hi)
 clear BK349 HO356 BK362 HO365 HB HI353; have BK349 := n0_; have HO356 := n1_; have BK362 := n2_; have HO365 := n3_; have HB := n4_; have HI353 := n5_; clear n0_ n1_ n2_ n3_ n4_ n5_
 (try clear hb)
 (try clear hb2)
 (try clear hk)
 (try clear hi)
 refine hK.out _ _ ⟨(blk_cell BK362.out 0).trans rfl, (blk_cell BK362.out 1).trans rfl, (blk_cell BK362.out 2).trans rfl, (blk_cell BK362.out 3).trans rfl⟩ (fun hHeld => ?_)
 clear hK K
 refine norm_ (a' := ?_) ?_ ?_
 rotate_left
 ·show Act.put _ (some 21) _ = _
  simp only [Act.put, List.setIfInBounds_toArray, List.set_cons_zero, List.set_cons_succ, i64_w, i32_w]
  rfl
 refine one_ (i := 12) (N := none) (bz 14 8191) rfl rfl (one_of HT_.out (by kernel_rfl)) (by decide) (fun K hK => ?_)
 have hs19 : w18.cell? ⟨gb349, 0, none⟩ = some (.slice none 0 0) := (blk_cell BK349.out 0).trans rfl
 have hfs19 := blk_frozen BK349.out 0
 have hns19_1 := NB362_349.out
 have hms19_1 := NB349_362.out
 have hs20 : w18.cell? ⟨gb349, 1, none⟩ = some (.int .i64 0) := (blk_cell BK349.out 1).trans rfl
 have hfs20 := blk_frozen BK349.out 1
 have hns20_1 := NB362_349.out
 have hms20_1 := NB349_362.out
 have hs21 : w18.cell? ⟨gb349, 2, none⟩ = some (.int .i64 0) := (blk_cell BK349.out 2).trans rfl
 have hfs21 := blk_frozen BK349.out 2
 have hns21_1 := NB362_349.out
 have hms21_1 := NB349_362.out
 have hs22 : w18.cell? ⟨gb349, 3, none⟩ = some (.string (⟨#[]⟩ : ByteArray)) := (blk_cell BK349.out 3).trans rfl
 have hfs22 := blk_frozen BK349.out 3
 have hns22_1 := NB362_349.out
 have hms22_1 := NB349_362.out
 refine skip_ (w1 := ?_) (by rfl) rfl ?_ ?_
 rotate_left
 ·go_simp
  rfl
 refine hK.out _ _ ⟨((cell_far (p := ⟨gb349, _, none⟩) NB362_349.out _).trans (((cell_far (p := ⟨gb349, _, none⟩) NB362_349.out _).trans (((cell_far (p := ⟨gb349, _, none⟩) NB362_349.out _).trans (((cell_far (p := ⟨gb349, _, none⟩) NB362_349.out _).trans (hHeld.1)))))))), ((cell_far (p := ⟨gb349, _, none⟩) NB362_349.out _).trans (((cell_far (p := ⟨gb349, _, none⟩) NB362_349.out _).trans (((cell_far (p := ⟨gb349, _, none⟩) NB362_349.out _).trans (((cell_far (p := ⟨gb349, _, none⟩) NB362_349.out _).trans (hHeld.2.1)))))))), ((cell_far (p := ⟨gb349, _, none⟩) NB362_349.out _).trans (((cell_far (p := ⟨gb349, _, none⟩) NB362_349.out _).trans (((cell_far (p := ⟨gb349, _, none⟩) NB362_349.out _).trans (((cell_far (p := ⟨gb349, _, none⟩) NB362_349.out _).trans (hHeld.2.2.1)))))))), ((cell_far (p := ⟨gb349, _, none⟩) NB362_349.out _).trans (((cell_far (p := ⟨gb349, _, none⟩) NB362_349.out _).trans (((cell_far (p := ⟨gb349, _, none⟩) NB362_349.out _).trans (((cell_far (p := ⟨gb349, _, none⟩) NB362_349.out _).trans (hHeld.2.2.2))))))))⟩ (fun hHeld => ?_)
 clear hK K
 refine (pu 13 (some 3) 16383 ?_ ?_ HT_ rfl rfl (by kernel_rfl) (fun _ _ _ h => h) ?_ ?_ ?_ ?_)
 all_goals first | (intro w'; go_simp; with_reducible rfl) | (simp only [Act.put, List.setIfInBounds_toArray, List.set_cons_zero, List.set_cons_succ, i64_w, i32_w]; rfl) | rfl | skip
 refine done_ (done_of HT_.out (by kernel_rfl)) ?_
 try go_wp2
 refine bodyPost_ret (results_ct rfl _ _ gb349 26 #[.slice Ao9 t354.length co9, .int .i64 t357, .int .i64 t358, .string t359] (0, 0) _ rfl (by (with_reducible repeat (first | refine aB1 ?_ _ | refine aB2 ?_ | refine aB3 ?_ _)); refine blk_put (cs := #[.slice Ao9 t354.length co9, .int .i64 t357, .int .i64 t358, .string (⟨#[]⟩ : ByteArray)]) ?_ 3 _ rfl; (with_reducible repeat (first | refine aB1 ?_ _ | refine aB2 ?_ | refine aB3 ?_ _)); refine blk_put (cs := #[.slice Ao9 t354.length co9, .int .i64 t357, .int .i64 0, .string (⟨#[]⟩ : ByteArray)]) ?_ 2 _ rfl; (with_reducible repeat (first | refine aB1 ?_ _ | refine aB2 ?_ | refine aB3 ?_ _)); refine blk_put (cs := #[.slice Ao9 t354.length co9, .int .i64 0, .int .i64 0, .string (⟨#[]⟩ : ByteArray)]) ?_ 1 _ rfl; (with_reducible repeat (first | refine aB1 ?_ _ | refine aB2 ?_ | refine aB3 ?_ _)); refine blk_put (cs := #[.slice none 0 0, .int .i64 0, .int .i64 0, .string (⟨#[]⟩ : ByteArray)]) ?_ 0 _ rfl; (with_reducible repeat (first | refine aB1 ?_ _ | refine aB2 ?_ | refine aB3 ?_ _)); exact BK349.out) Tryd.underlying26 rfl (by kernel_rfl)) rfl ?_
 exact ⟨_, by first | rfl | (simp [errW_none, errW_some] <;> rfl) | (simp [*, errW_none, errW_some] <;> rfl), by (with_reducible repeat (first | apply aR1 | apply aR2 | apply aR3)); exact Kd.R_mono (Kd.R_far (p := ⟨gb349, 3, none⟩) (Kd.R_far (p := ⟨gb349, 2, none⟩) (Kd.R_far (p := ⟨gb349, 1, none⟩) (Kd.R_far (p := ⟨gb349, 0, none⟩) (Kd.R_types HO356.out BK349.out (by decide)) (fun _ hk => hk.2) (.slice Ao9 t354.length co9)) (fun _ hk => hk.2) (.int .i64 t357)) (fun _ hk => hk.2) (.int .i64 t358)) (fun _ hk => hk.2) (.string t359)) (fun _ hk => trivial), by repeat (first | (with_reducible first | exact HB.out | apply aW1 | apply aW2 | apply aW3 | refine below_set ?_ (IsS50.ge HI353.out) | refine below_set ?_ GE349.out | refine below_set ?_ GE362.out) | exact HB.out)⟩

/-! ### spec_DrawAlarmText: function 8 -/
def spec_DrawAlarmText.f (k : Nat) (l0 : List Int) : Option ((List (S56)) × Int × Int × ByteArray) := (spec_l1New.f k l0).bind fun bt370 => ((spec_l4Any.f k bt370.1 bt370.2.1 bt370.2.2).bind fun bt374 => (some (bt374.1, bt374.2.1, bt374.2.2.1, bt374.2.2.2.1)))
set_option maxHeartbeats 8000000 in
set_option maxRecDepth 100000 in
theorem spec_DrawAlarmText.calls (k : Nat) (A0 : Option Addr) (c0 : Nat) (l0 : List Int) (r1 : List (S56)) (r2 : Int) (r3 : Int) (r4 : ByteArray) (w : World) (hr0 : Kd.C (Kd.int .u8) w A0 l0.length l0) (hc0 : l0.length ≤ c0) (h : spec_DrawAlarmText.f k l0 = some (r1, r2, r3, r4)) :
  Calls Tryd.prog 8 #[.slice A0 l0.length c0] w fun e w' => ∃ v0_ : Value, e = .returned (.agg #[v0_, .int .i64 r2, .int .i64 r3, .string r4]) ∧ Kd.R k56 56 w' w.heap.size (fun _ => True) v0_ r1 ∧ Below w.heap.size w w' := by
 have hu26 := Tryd.underlying26
 have HR0 := aM hr0
 have HC0 := aM hc0
 clear hr0 hc0
 have HB := aM (Below.refl w.heap.size w)
 have H : ((spec_l1New.f k l0).bind fun bt370 => ((spec_l4Any.f k bt370.1 bt370.2.1 bt370.2.2).bind fun bt374 => (some (bt374.1, bt374.2.1, bt374.2.2.1, bt374.2.2.2.1)))) = some (r1, r2, r3, r4) := h
 clear h; replace H := Option.bind_eq_some_iff.mp H
 obtain ⟨⟨t370, t371, t372⟩, A20, H⟩ := H
 try dsimp only at H
 have A2 := aM A20
 clear A20; replace H := Option.bind_eq_some_iff.mp H
 obtain ⟨⟨t374, t377, t378, t379, t380, t381⟩, A30, H⟩ := H
 try dsimp only at H
 have A3 := aM A30
 clear A30
 simp only [Option.some.injEq, Prod.mk.injEq] at H
 obtain ⟨rfl, rfl, rfl, rfl⟩ := H
 go_enter Tryd.func8, Tryd.ntmps8
 go_wp2_with (first | ((with_reducible refine gate_dst (N := 2) rfl ?_); refine box_event ?hg (N := 2) ?hd (cs := #[.slice none 0 0, .int .i64 0, .int .i64 0, .string (⟨#[]⟩ : ByteArray)]) (t := 26) ?hr ?_; (case hd => rfl); (case hg => rfl); (case hr => first | (go_simp; done) | (go_simp; rfl)); intro gb369 hg w4 hbox hb; have n0_ := aM (below_step (by repeat (first | (with_reducible first | exact HB.out | apply aW1 | apply aW2 | apply aW3) | exact HB.out)) hb); have n1_ := aM (hbox); have n2_ := aM ((by rw [hg]; exact (below_size (by repeat (first | (with_reducible first | exact HB.out | apply aW1 | apply aW2 | apply aW3) | exact HB.out))) : w.heap.size ≤ gb369)); have n3_ := aM ((by rw [hg]; exact (below_size (by repeat (first | (with_reducible first | exact HB.out | apply aW1 | apply aW2 | apply aW3) | exact HB.out))) : w.heap.size ≤ gb369)); clear HB; have HB := n0_; have BK369 := n1_; have GW369 := n2_; have GE369 := n3_; clear n0_ n1_ n2_ n3_ hb hbox hg) | ((with_reducible refine gate_callee (f := 17) rfl ?_); refine goesL_ (some 5) rfl rfl Tryd.func17 (by kernel_rfl) rfl #[.slice A0 l0.length c0] rfl (by (try simp only [List.map_toArray, List.map_cons, List.map_nil]); first | done | rfl | (simp only [List.length_drop, List.length_take]; rfl)) ?_; (with_reducible refine (spec_l1New.calls k _ _ l0 t370 t371 t372 w _ ?side1 ?side2 ?side3 A2.out).mono ?_); (case side1 => repeat (first | (with_reducible first | exact HB.out | apply aW1 | apply aW2 | apply aW3 | refine below_set ?_ GE369.out) | exact HB.out)); (case side2 => exact HR0.out); (case side3 => exact HC0.out); rintro e w5 ⟨g373, rfl, hi, hb, hb2⟩; refine ⟨_, rfl, ?_⟩; have n0_ := aM (blk_below (g := gb369) (aB BK369) hb2); have n1_ := aM (hb); have n2_ := aM (hi); have n3_ := aM (IsS50.ne_blk hi (blk_below (g := gb369) (aB BK369) hb2) (by decide)); have n4_ := aM (Ne.symm (IsS50.ne_blk hi (blk_below (g := gb369) (aB BK369) hb2) (by decide))); clear BK369 HB; have BK369 := n0_; have HB := n1_; have HI373 := n2_; have NB373_369 := n3_; have NB369_373 := n4_; clear n0_ n1_ n2_ n3_ n4_; (try clear hb); (try clear hb2); (try clear hk); (try clear hi)) | ((with_reducible refine gate_callee (f := 18) rfl ?_); refine goesL_ (some 7) rfl rfl Tryd.func18 (by kernel_rfl) rfl #[.pointer (some ⟨g373, 0, none⟩)] rfl (by (try simp only [List.map_toArray, List.map_cons, List.map_nil]); first | done | rfl | (simp only [List.length_drop, List.length_take]; rfl)) ?_; (with_reducible refine (spec_l4Any.calls k g373 t370 t371 t372 t374 t377 t378 t379 t380 t381 w _ ?side1 ?side2 A3.out).mono ?_); (case side1 => repeat (first | (with_reducible first | exact HI373.out | apply IsS50.alloc | apply IsS50.drewN | apply IsS50.drew | apply IsS50.set_1 | apply IsS50.set_2 | refine IsS50.far ?_ NB373_369.out _) | exact HI373.out)); (case side2 => repeat (first | (with_reducible first | exact HB.out | apply aW1 | apply aW2 | apply aW3 | refine below_set ?_ (IsS50.ge HI373.out) | refine below_set ?_ GE369.out) | exact HB.out)); rintro e w6 ⟨v375, rfl, ho0, hi, hb, hk⟩; refine ⟨_, rfl, ?_⟩; have n0_ := aM (KeepBut.blk hk (g' := gb369) (aB BK369) NB369_373.out (by simp)); have n1_ := aM (Kd.R_lower ho0 (below_size (by repeat (first | (with_reducible first | exact HB.out | apply aW1 | apply aW2 | apply aW3 | refine below_set ?_ (IsS50.ge HI373.out) | refine below_set ?_ GE369.out) | exact HB.out)))); have n2_ := aM (hb); have n3_ := aM (hi); clear BK369 HB HI373; have BK369 := n0_; have HO376 := n1_; have HB := n2_; have HI373 := n3_; clear n0_ n1_ n2_ n3_; (try clear hb); (try clear hb2); (try clear hk); (try clear hi); (try clear ho0); obtain ⟨Ao7, co7, eo7⟩ := Kd.R_slice HO376.out; subst eo7; have hnb8 := NB369_373.out; have hnc8 := NB373_369.out; have hcz9_0 := cz4_0 BK369; have hcz9_1 := cz4_1 BK369; have hcz9_2 := cz4_2 BK369; have hcz9_3 := cz4_3 BK369; have hfz9_0 := blk_frozen BK369.out 0; have hfz9_1 := blk_frozen BK369.out 1; have hfz9_2 := blk_frozen BK369.out 2; have hfz9_3 := blk_frozen BK369.out 3))
 refine bodyPost_ret (results_cell_row rfl _ _ gb369 26 #[.slice Ao7 t374.length co7, .int .i64 t377, .int .i64 t378, .string t379] (0, 0) _ rfl (by (with_reducible repeat (first | refine aB1 ?_ _ | refine aB2 ?_ | refine aB3 ?_ _)); refine blk_put (cs := #[.slice Ao7 t374.length co7, .int .i64 t377, .int .i64 t378, .string (⟨#[]⟩ : ByteArray)]) ?_ 3 _ rfl; (with_reducible repeat (first | refine aB1 ?_ _ | refine aB2 ?_ | refine aB3 ?_ _)); refine blk_put (cs := #[.slice Ao7 t374.length co7, .int .i64 t377, .int .i64 0, .string (⟨#[]⟩ : ByteArray)]) ?_ 2 _ rfl; (with_reducible repeat (first | refine aB1 ?_ _ | refine aB2 ?_ | refine aB3 ?_ _)); refine blk_put (cs := #[.slice Ao7 t374.length co7, .int .i64 0, .int .i64 0, .string (⟨#[]⟩ : ByteArray)]) ?_ 1 _ rfl; (with_reducible repeat (first | refine aB1 ?_ _ | refine aB2 ?_ | refine aB3 ?_ _)); refine blk_put (cs := #[.slice none 0 0, .int .i64 0, .int .i64 0, .string (⟨#[]⟩ : ByteArray)]) ?_ 0 _ rfl; (with_reducible repeat (first | refine aB1 ?_ _ | refine aB2 ?_ | refine aB3 ?_ _)); exact BK369.out) Tryd.underlying26 rfl (by kernel_rfl)) rfl ?_
 exact ⟨_, by first | rfl | (simp [errW_none, errW_some] <;> rfl) | (simp [*, errW_none, errW_some] <;> rfl), by (with_reducible repeat (first | apply aR1 | apply aR2 | apply aR3)); exact Kd.R_mono (Kd.R_far (p := ⟨gb369, 3, none⟩) (Kd.R_far (p := ⟨gb369, 2, none⟩) (Kd.R_far (p := ⟨gb369, 1, none⟩) (Kd.R_far (p := ⟨gb369, 0, none⟩) (Kd.R_types HO376.out BK369.out (by decide)) (fun _ hk => hk.2) (.slice Ao7 t374.length co7)) (fun _ hk => hk.2) (.int .i64 t377)) (fun _ hk => hk.2) (.int .i64 t378)) (fun _ hk => hk.2) (.string t379)) (fun _ hk => trivial), by repeat (first | (with_reducible first | exact HB.out | apply aW1 | apply aW2 | apply aW3 | refine below_set ?_ (IsS50.ge HI373.out) | refine below_set ?_ GE369.out) | exact HB.out)⟩

/-! ### impl_PlainOk: function 24 -/
def impl_PlainOk.l0 : Nat → ByteArray → Int → Option (Bool)
 | 0, _, _ => none
 | k + 1, x0, x3 => if x3 < (x0.size : Int) then (if 0 ≤ x3 then (if (bt x0 x3) < 32 then (some false) else (if (bt x0 x3) > 126 then (some false) else (if (bt x0 x3) = 34 then (some false) else (if (bt x0 x3) = 92 then (some false) else (impl_PlainOk.l0 k x0 (wrap64 (x3 + 1))))))) else (none)) else (some true)
def impl_PlainOk.f (k : Nat) (a0 : ByteArray) : Option (Bool) := if (a0.size : Int) > 12 then (some false) else (impl_PlainOk.l0 k a0 0)
set_option maxHeartbeats 8000000 in
set_option maxRecDepth 100000 in
theorem impl_PlainOk.calls (k : Nat) (a0 : ByteArray) (r : Bool) (w : World) (h : impl_PlainOk.f k a0 = some r) :
  Calls Tryd.prog 24 #[.string a0] w fun e w' => e = .returned (.bool r) ∧ Drawn0 w w' := by
 have H : (if (a0.size : Int) > 12 then (some false) else (impl_PlainOk.l0 k a0 0)) = some r := h
 clear h
 by_cases c2 : (a0.size : Int) > 12
 ·rw [if_pos c2] at H; have c2b0 : decide (12 < (a0.size : Int)) = true := decide_eq_true c2
  have c2b1 : decide (12 < a0.size) = true := decide_eq_true (by omega)
  clear c2
  obtain rfl := Option.some.inj H
  go_enter Tryd.func24, Tryd.ntmps24
  go_wp2
  go_ret
  exact ⟨by first | rfl | (simp; done) | (simp [*]; done), by repeat (first | exact Drawn0.refl _ | apply Drawn0.step)⟩
 ·rw [if_neg c2] at H; have c2b0 : decide (12 < (a0.size : Int)) = false := decide_eq_false c2
  have c2b1 : decide (12 < a0.size) = false := decide_eq_false (by omega)
  clear c2
  have H' := aM H
  clear H
  go_enter Tryd.func24, Tryd.ntmps24
  go_wp2
  go_loopg [3] k (fun kq v3 w' => ∃ (x3_1 : Int), v3 = .int .i64 x3_1 ∧ Aside0 (impl_PlainOk.l0 kq a0 x3_1 = some r) ∧ Aside0 (kq ≤ k) ∧ Drawn0 w w')
  case atStart => exact ⟨(0), (by first | rfl | (simp; done) | (simp [*]; done)), H', ⟨Nat.le_refl _⟩, by repeat (first | exact Drawn0.refl _ | apply Drawn0.step)⟩
  case round =>
   clear H'
   try clear c2
   try clear c2b0
   try clear c2b1
   try clear p2
   obtain ⟨x3_1, rfl, HA, HK1, ⟨m1, rfl⟩⟩ := hrel
   cases gk with
   | zero => exact absurd HA.out (by simp [impl_PlainOk.l0])
   | succ k1 =>
    have H := HA.out
    clear HA
    simp only [impl_PlainOk.l0] at H
    by_cases c3 : x3_1 < (a0.size : Int)
    ·rw [if_pos c3] at H; have c3b0 : decide (x3_1 < (a0.size : Int)) = true := decide_eq_true c3; clear c3
     by_cases c4 : 0 ≤ x3_1
     ·rw [if_pos c4] at H; have c4b0 : decide (0 ≤ x3_1) = true := decide_eq_true c4; clear c4
      by_cases c6 : (bt a0 x3_1) < 32
      ·rw [if_pos c6] at H; have c6b0 : decide ((bt a0 x3_1) < 32) = true := decide_eq_true c6; clear c6
       obtain rfl := Option.some.inj H
       have p5 : 0 ≤ (x3_1 : Int) := of_decide_eq_true (by first | (with_reducible assumption) | assumption)
       have q5 : x3_1 < (a0.size : Int) := of_decide_eq_true (by first | (with_reducible assumption) | assumption)
       have hx5 := bt_at a0 x3_1
       replace p5 := eq_true p5
       replace q5 := eq_true q5
       go_wp2
       go_ret
       exact ⟨by first | rfl | (simp; done) | (simp [*]; done), by repeat (first | exact Drawn0.refl _ | apply Drawn0.step)⟩
      ·rw [if_neg c6] at H; have c6b0 : decide ((bt a0 x3_1) < 32) = false := decide_eq_false c6; clear c6
       by_cases c7 : (bt a0 x3_1) > 126
       ·rw [if_pos c7] at H; have c7b0 : decide (126 < (bt a0 x3_1)) = true := decide_eq_true c7; clear c7
        obtain rfl := Option.some.inj H
        have p5 : 0 ≤ (x3_1 : Int) := of_decide_eq_true (by first | (with_reducible assumption) | assumption)
        have q5 : x3_1 < (a0.size : Int) := of_decide_eq_true (by first | (with_reducible assumption) | assumption)
        have hx5 := bt_at a0 x3_1
        replace p5 := eq_true p5
        replace q5 := eq_true q5
        go_wp2
        go_ret
        exact ⟨by first | rfl | (simp; done) | (simp [*]; done), by repeat (first | exact Drawn0.refl _ | apply Drawn0.step)⟩
       ·rw [if_neg c7] at H; have c7b0 : decide (126 < (bt a0 x3_1)) = false := decide_eq_false c7; clear c7
        by_cases c8 : (bt a0 x3_1) = 34
        ·rw [if_pos c8] at H
         have c8b0 : ((bt a0 x3_1) == 34) = true := beq_iff_eq.mpr c8
         have c8b1 : ((bt a0 x3_1) != 34) = false := bne_eq_false_iff_eq.mpr c8
         clear c8
         obtain rfl := Option.some.inj H
         have p5 : 0 ≤ (x3_1 : Int) := of_decide_eq_true (by first | (with_reducible assumption) | assumption)
         have q5 : x3_1 < (a0.size : Int) := of_decide_eq_true (by first | (with_reducible assumption) | assumption)
         have hx5 := bt_at a0 x3_1
         replace p5 := eq_true p5
         replace q5 := eq_true q5
         go_wp2
         go_ret
         exact ⟨by first | rfl | (simp; done) | (simp [*]; done), by repeat (first | exact Drawn0.refl _ | apply Drawn0.step)⟩
        ·rw [if_neg c8] at H
         have c8b0 : ((bt a0 x3_1) == 34) = false := beq_eq_false_iff_ne.mpr c8
         have c8b1 : ((bt a0 x3_1) != 34) = true := bne_iff_ne.mpr c8
         by_cases c9 : (bt a0 x3_1) = 92
         ·rw [if_pos c9] at H
          have c9b0 : ((bt a0 x3_1) == 92) = true := beq_iff_eq.mpr c9
          have c9b1 : ((bt a0 x3_1) != 92) = false := bne_eq_false_iff_eq.mpr c9
          clear c9
          obtain rfl := Option.some.inj H
          have p5 : 0 ≤ (x3_1 : Int) := of_decide_eq_true (by first | (with_reducible assumption) | assumption)
          have q5 : x3_1 < (a0.size : Int) := of_decide_eq_true (by first | (with_reducible assumption) | assumption)
          have hx5 := bt_at a0 x3_1
          replace p5 := eq_true p5
          replace q5 := eq_true q5
          go_wp2
          go_ret
          exact ⟨by first | rfl | (simp; done) | (simp [*]; done), by repeat (first | exact Drawn0.refl _ | apply Drawn0.step)⟩
         ·rw [if_neg c9] at H
          have c9b0 : ((bt a0 x3_1) == 92) = false := beq_eq_false_iff_ne.mpr c9
          have c9b1 : ((bt a0 x3_1) != 92) = true := bne_iff_ne.mpr c9
          have H' := aM H
          clear H
          have p5 : 0 ≤ (x3_1 : Int) := of_decide_eq_true (by first | (with_reducible assumption) | assumption)
          have q5 : x3_1 < (a0.size : Int) := of_decide_eq_true (by first | (with_reducible assumption) | assumption)
          have hx5 := bt_at a0 x3_1
          replace p5 := eq_true p5
          replace q5 := eq_true q5
          go_wp2
          go_roundg k1
          case measure => have := HK1.out; omega
          case rel => exact ⟨(wrap64 (x3_1 + 1)), (by first | rfl | (simp; done) | (simp [*]; done)), H', ⟨by have := HK1.out; omega⟩, by repeat (first | exact Drawn0.refl _ | apply Drawn0.step)⟩
     ·rw [if_neg c4] at H
      exact absurd H (by simp)
    ·rw [if_neg c3] at H; have c3b0 : decide (x3_1 < (a0.size : Int)) = false := decide_eq_false c3; clear c3
     obtain rfl := Option.some.inj H
     go_wp2
     go_ret
     exact ⟨by first | rfl | (simp; done) | (simp [*]; done), by repeat (first | exact Drawn0.refl _ | apply Drawn0.step)⟩

/-! ### impl_in: function 23 -/
def impl_in.f (a0 : Int) (a1 : Int) (a2 : Int) : Option (Bool) := if a0 ≥ a1 then (some (decide (a0 ≤ a2))) else (some false)
set_option maxHeartbeats 8000000 in
set_option maxRecDepth 100000 in
theorem impl_in.calls (a0 : Int) (a1 : Int) (a2 : Int) (r : Bool) (w : World) (h : impl_in.f a0 a1 a2 = some r) :
  Calls Tryd.prog 23 #[.int .i64 a0, .int .i64 a1, .int .i64 a2] w fun e w' => e = .returned (.bool r) ∧ Drawn0 w w' := by
 have H : (if a0 ≥ a1 then (some (decide (a0 ≤ a2))) else (some false)) = some r := h
 clear h
 by_cases c4 : a0 ≥ a1
 ·rw [if_pos c4] at H; have c4b0 : decide (a1 ≤ a0) = true := decide_eq_true c4; clear c4
  obtain rfl := Option.some.inj H
  go_enter Tryd.func23, Tryd.ntmps23
  go_wp2
  go_ret
  exact ⟨by first | rfl | (simp; done) | (simp [*]; done), by repeat (first | exact Drawn0.refl _ | apply Drawn0.step)⟩
 ·rw [if_neg c4] at H; have c4b0 : decide (a1 ≤ a0) = false := decide_eq_false c4; clear c4
  obtain rfl := Option.some.inj H
  go_enter Tryd.func23, Tryd.ntmps23
  go_wp2
  go_ret
  exact ⟨by first | rfl | (simp; done) | (simp [*]; done), by repeat (first | exact Drawn0.refl _ | apply Drawn0.step)⟩

end Go.Proofs.YtgindocfjoalhabDoor.PFnAlarms
