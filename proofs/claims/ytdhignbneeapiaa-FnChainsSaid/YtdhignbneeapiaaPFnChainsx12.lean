/- What the Go functions that FnChains reaches compute, as Lean functions, and that the machine's calls do so; no conditions. -/
import Derived.Test.YtdhignbneeapiaaPFnChainsx0
import Derived.Test.YtdhignbneeapiaaPFnChainsx2
import Derived.Test.YtdhignbneeapiaaPFnChainsx3
import Derived.Test.YtdhignbneeapiaaPFnChainsx10
import Derived.Test.YtdhignbneeapiaaPFnChainsx11
namespace Go.Proofs.Ytdhignbneeapiaa.PFnChains
open Go.Proofs.Ytdhignbneeapiaa
open Go.RowKit Go.Proofs.YtdhignbneeapiaaW.PrintWords Go.Proofs.YtdhignbneeapiaaW.PrintLast Go.Proofs.YtdhignbneeapiaaW.PrintMore
attribute [local go_sem] max2_int min2_int max_two min_two max_three min_three max_four min_four   -- for this text's walks alone
set_option linter.unusedVariables false
set_option linter.unusedSimpArgs false
set_option maxHeartbeats 8000000
set_option maxRecDepth 100000

/-! ### spec_DrawChainOk: function 8 -/
def spec_DrawChainOk.f (k : Nat) (l0 : List Int) : Option (Int × (List (S29))) := (spec_l1New.f k l0).bind fun bt564 => ((spec_l6Any.f k bt564.1 bt564.2.1 bt564.2.2).bind fun bt568 => (some (bt568.1, bt568.2.1)))
theorem spec_DrawChainOk.calls (k : Nat) (A0 : Option Addr) (c0 : Nat) (l0 : List Int) (r1 : Int) (r2 : List (S29)) (w : World) (hr0 : Kd.C (Kd.int .u8) w A0 l0.length l0) (hc0 : l0.length ≤ c0) (h : spec_DrawChainOk.f k l0 = some (r1, r2)) :
  Calls Try.prog 8 #[.slice A0 l0.length c0] w fun e w' => ∃ v1_ : Value, e = .returned (.agg #[.int .i64 r1, v1_]) ∧ Kd.S k29 29 w' w.heap.size (fun _ => True) v1_ r2 ∧ Below w.heap.size w w' := by
 have hu26 := Try.underlying26
 have HR0 := aM hr0
 have HC0 := aM hc0
 clear hr0 hc0
 have HB := aM (Below.refl w.heap.size w)
 have H : ((spec_l1New.f k l0).bind fun bt564 => ((spec_l6Any.f k bt564.1 bt564.2.1 bt564.2.2).bind fun bt568 => (some (bt568.1, bt568.2.1)))) = some (r1, r2) := h
 clear h; replace H := bs_ H
 obtain ⟨⟨t564, t565, t566⟩, A20, H⟩ := H
 try dsimp only at H
 have A2 := aM A20
 clear A20; replace H := bs_ H
 obtain ⟨⟨t568, t569, t572, t573⟩, A30, H⟩ := H
 try dsimp only at H
 have A3 := aM A30
 clear A30
 simp only [Option.some.injEq, Prod.mk.injEq] at H
 obtain ⟨rfl, rfl⟩ := H
 go_enter Try.func8, Try.ntmps8
 go_wp2_with (first | (refine be_ 2 #[.int .i64 0, .slice none 0 0] 26 ?_; intro gb563 hg w4 hbox hb; have BK563 := aM (hbox); have GW563 := gw hg (bw HB); have GE563 := gw hg (bw HB); replace HB := aM (below_step (bw HB) hb); clear hb hbox hg) | (refine gl_ (some 5) Try.func23 #[.slice A0 l0.length c0] ?_; (with_reducible refine (spec_l1New.calls k _ _ l0 t564 t565 t566 w _ ?side1 ?side2 ?side3 A2.out).mono ?_); (case side1 => exact bw HB); (case side2 => exact HR0.out); (case side3 => exact HC0.out); rintro e w5 ⟨g567, rfl, hi, hb, hb2⟩; refine ⟨_, rfl, ?_⟩; replace HB := aM (hb); have HI567 := aM (hi); have NB567_563 := aM (IsS67.ne_blk hi (blk_below (g := gb563) (aB BK563) hb2) (by decide)); have NB563_567 := aM (Ne.symm (IsS67.ne_blk hi (blk_below (g := gb563) (aB BK563) hb2) (by decide))); replace BK563 := aM (blk_below (g := gb563) (aB BK563) hb2); (try clear hb); (try clear hb2); (try clear hk); (try clear hi)) | (refine gl_ (some 7) Try.func24 #[.pointer (some ⟨g567, 0, none⟩)] ?_; (with_reducible refine (spec_l6Any.calls k g567 t564 t565 t566 t568 t569 t572 t573 w _ ?side1 ?side2 A3.out).mono ?_); (case side1 => repeat (first | (with_reducible first | exact HI567.out | apply IsS67.alloc | apply IsS67.drewN | apply IsS67.drew | apply IsS67.set_1 | apply IsS67.set_2 | refine IsS67.far ?_ NB567_563.out _) | exact HI567.out)); (case side2 => exact bw HB); rintro e w6 ⟨v570, rfl, ho0, hi, hb, hk⟩; refine ⟨_, rfl, ?_⟩; replace BK563 := aM (KeepBut.blk hk (g' := gb563) (aB BK563) NB563_567.out (by simp)); have HO571 := aM (Kd.S_lower ho0 (below_size (bw HB))); replace HB := aM (hb); replace HI567 := aM (hi); (try clear hb); (try clear hb2); (try clear hk); (try clear hi); (try clear ho0); have hnb7 := NB563_567.out; have hnc7 := NB567_563.out; obtain ⟨hcz8_0, hcz8_1⟩ := zc2 BK563; have hfz8_0 := zf BK563; obtain ⟨Ao9, co9, eo9⟩ := Kd.S_slice HO571.out; subst eo9))
 refine bodyPost_ret (results_cell_row rfl _ _ gb563 26 #[.int .i64 t568, .slice Ao9 t569.length co9] (0, 0) _ rfl (by refine blk_put (cs := #[.int .i64 t568, .slice none 0 0]) ?_ 1 _ rfl; refine blk_put (cs := #[.int .i64 0, .slice none 0 0]) ?_ 0 _ rfl; exact aB BK563) Try.underlying26 rfl (by kernel_rfl)) rfl ?_
 exact ⟨_, er, by (with_reducible repeat (first | apply Kd.S_alloc | apply Kd.S_drewN | apply Kd.S_drew)); exact Kd.S_mono (Kd.S_far (p := ⟨gb563, 1, none⟩) (Kd.S_far (p := ⟨gb563, 0, none⟩) (Kd.S_types HO571.out BK563.out (by decide)) (fun _ hk => hk.2) (.int .i64 t568)) (fun _ hk => hk.2) (.slice Ao9 t569.length co9)) (fun _ hk => trivial), (bw HB)⟩

/-! ### spec_DrawSameChain: function 9 -/
def spec_DrawSameChain.f (k : Nat) (l0 : List Int) : Option (Int × (List (S29)) × Int × (List (S29))) := (spec_l1New.f k l0).bind fun bt576 => ((spec_l6Any.f k bt576.1 bt576.2.1 bt576.2.2).bind fun bt580 => ((spec_l1Once.f bt576.1 bt580.2.2.1 bt580.2.2.2 2).bind fun bt587 => (if bt587.1 = true then ((spec_l6Copy.f k bt580.1 bt580.2.1).bind fun bt590 => (some (bt580.1, bt580.2.1, bt590.1, bt590.2))) else ((spec_l6Any.f k bt576.1 bt587.2.1 bt587.2.2).bind fun bt594 => (some (bt580.1, bt580.2.1, bt594.1, bt594.2.1))))))
theorem spec_DrawSameChain.calls (k : Nat) (A0 : Option Addr) (c0 : Nat) (l0 : List Int) (r1 : Int) (r2 : List (S29)) (r3 : Int) (r4 : List (S29)) (w : World) (hr0 : Kd.C (Kd.int .u8) w A0 l0.length l0) (hc0 : l0.length ≤ c0) (h : spec_DrawSameChain.f k l0 = some (r1, r2, r3, r4)) :
  Calls Try.prog 9 #[.slice A0 l0.length c0] w fun e w' => ∃ v1_ v3_ : Value, e = .returned (.tuple #[.agg #[.int .i64 r1, v1_], .agg #[.int .i64 r3, v3_]]) ∧ Kd.S k29 29 w' w.heap.size (fun k_ => some k_ ≠ (v3_ : Value).ownBlock) v1_ r2 ∧ Kd.S k29 29 w' w.heap.size (fun k_ => some k_ ≠ (v1_ : Value).ownBlock) v3_ r4 ∧ Below w.heap.size w w' := by
 have hu26 := Try.underlying26
 have HR0 := aM hr0
 have HC0 := aM hc0
 clear hr0 hc0
 have HB := aM (Below.refl w.heap.size w)
 have H : ((spec_l1New.f k l0).bind fun bt576 => ((spec_l6Any.f k bt576.1 bt576.2.1 bt576.2.2).bind fun bt580 => ((spec_l1Once.f bt576.1 bt580.2.2.1 bt580.2.2.2 2).bind fun bt587 => (if bt587.1 = true then ((spec_l6Copy.f k bt580.1 bt580.2.1).bind fun bt590 => (some (bt580.1, bt580.2.1, bt590.1, bt590.2))) else ((spec_l6Any.f k bt576.1 bt587.2.1 bt587.2.2).bind fun bt594 => (some (bt580.1, bt580.2.1, bt594.1, bt594.2.1))))))) = some (r1, r2, r3, r4) := h
 clear h; replace H := bs_ H
 obtain ⟨⟨t576, t577, t578⟩, A20, H⟩ := H
 try dsimp only at H
 have A2 := aM A20
 clear A20; replace H := bs_ H
 obtain ⟨⟨t580, t581, t584, t585⟩, A30, H⟩ := H
 try dsimp only at H
 have A3 := aM A30
 clear A30; replace H := bs_ H
 obtain ⟨⟨t587, t588, t589⟩, A40, H⟩ := H
 try dsimp only at H
 have A4 := aM A40
 clear A40
 by_cases c5 : t587 = true
 ·subst c5
  have H1 : ((spec_l6Copy.f k t580 t581).bind fun bt590 => (some (t580, t581, bt590.1, bt590.2))) = some (r1, r2, r3, r4) := by rw [if_pos rfl] at H; exact H
  clear H
  have H := H1
  clear H1; replace H := bs_ H
  obtain ⟨⟨t590, t591⟩, A60, H⟩ := H
  try dsimp only at H
  have A6 := aM A60
  clear A60
  simp only [Option.some.injEq, Prod.mk.injEq] at H
  obtain ⟨rfl, rfl, rfl, rfl⟩ := H
  go_enter Try.func9, Try.ntmps9
  try go_wp2_with (first | (refine be_ 2 #[.int .i64 0, .slice none 0 0] 26 ?_; intro gb574 hg w7 hbox hb; have BK574 := aM (hbox); have GW574 := gw hg (bw HB); have GE574 := gw hg (bw HB); replace HB := aM (below_step (bw HB) hb); clear hb hbox hg) | (refine be_ 3 #[.int .i64 0, .slice none 0 0] 26 ?_; intro gb575 hg w8 hbox hb; have BK575 := aM (hbox); have GW575 := gw hg (bw HB); have GE575 := gw hg (bw HB); replace HB := aM (below_step (bw HB) hb); have NB574_575 := nb1 hg BK574; have NB575_574 := nb2 hg BK574; replace BK574 := bb BK574 hb; clear hb hbox hg) | (refine gl_ (some 7) Try.func23 #[.slice A0 l0.length c0] ?_; (with_reducible refine (spec_l1New.calls k _ _ l0 t576 t577 t578 w _ ?side1 ?side2 ?side3 A2.out).mono ?_); (case side1 => exact bw HB); (case side2 => exact HR0.out); (case side3 => exact HC0.out); rintro e w9 ⟨g579, rfl, hi, hb, hb2⟩; refine ⟨_, rfl, ?_⟩; replace HB := aM (hb); have HI579 := aM (hi); have NB579_574 := aM (IsS67.ne_blk hi (blk_below (g := gb574) (aB BK574) hb2) (by decide)); have NB574_579 := aM (Ne.symm (IsS67.ne_blk hi (blk_below (g := gb574) (aB BK574) hb2) (by decide))); replace BK574 := aM (blk_below (g := gb574) (aB BK574) hb2); have NB579_575 := aM (IsS67.ne_blk hi (blk_below (g := gb575) (aB BK575) hb2) (by decide)); have NB575_579 := aM (Ne.symm (IsS67.ne_blk hi (blk_below (g := gb575) (aB BK575) hb2) (by decide))); replace BK575 := aM (blk_below (g := gb575) (aB BK575) hb2); (try clear hb); (try clear hb2); (try clear hk); (try clear hi)) | (refine gl_ (some 9) Try.func24 #[.pointer (some ⟨g579, 0, none⟩)] ?_; (with_reducible refine (spec_l6Any.calls k g579 t576 t577 t578 t580 t581 t584 t585 w _ ?side1 ?side2 A3.out).mono ?_); (case side1 => repeat (first | (with_reducible first | exact HI579.out | apply IsS67.alloc | apply IsS67.drewN | apply IsS67.drew | apply IsS67.set_1 | apply IsS67.set_2 | refine IsS67.far ?_ NB579_574.out _ | refine IsS67.far ?_ NB579_575.out _) | exact HI579.out)); (case side2 => exact bw HB); rintro e w10 ⟨v582, rfl, ho0, hi, hb, hk⟩; refine ⟨_, rfl, ?_⟩; replace BK574 := aM (KeepBut.blk hk (g' := gb574) (aB BK574) NB574_579.out (by simp)); replace BK575 := aM (KeepBut.blk hk (g' := gb575) (aB BK575) NB575_579.out (by simp)); have HO583 := aM (Kd.S_lower ho0 (below_size (bw HB))); replace HB := aM (hb); replace HI579 := aM (hi); (try clear hb); (try clear hb2); (try clear hk); (try clear hi); (try clear ho0)) | (refine be_ 5 #[.int .i64 0, .slice none 0 0] 26 ?_; intro gb586 hg w11 hbox hb; replace HO583 := aM (Kd.S_below (sS HO583.out) hb); have BK586 := aM (hbox); have GW586 := gw hg (bw HB); have GE586 := gw hg (bw HB); replace HB := aM (below_step (bw HB) hb); have NB574_586 := nb1 hg BK574; have NB586_574 := nb2 hg BK574; replace BK574 := bb BK574 hb; have NB575_586 := nb1 hg BK575; have NB586_575 := nb2 hg BK575; replace BK575 := bb BK575 hb; have NB579_586 := aM ((by rw [hg]; exact Nat.ne_of_lt (IsS67.lt (show IsS67 w _ g579 t576 t584 t585 from by repeat (first | (with_reducible first | exact HI579.out | apply IsS67.alloc | apply IsS67.drewN | apply IsS67.drew | apply IsS67.set_1 | apply IsS67.set_2 | refine IsS67.far ?_ NB579_574.out _ | refine IsS67.far ?_ NB579_575.out _) | exact HI579.out))) : g579 ≠ gb586)); have NB586_579 := aM ((by rw [hg]; exact Nat.ne_of_gt (IsS67.lt (show IsS67 w _ g579 t576 t584 t585 from by repeat (first | (with_reducible first | exact HI579.out | apply IsS67.alloc | apply IsS67.drewN | apply IsS67.drew | apply IsS67.set_1 | apply IsS67.set_2 | refine IsS67.far ?_ NB579_574.out _ | refine IsS67.far ?_ NB579_575.out _) | exact HI579.out))) : gb586 ≠ g579)); replace HI579 := aM (IsS67.below (by repeat (first | (with_reducible first | exact HI579.out | apply IsS67.alloc | apply IsS67.drewN | apply IsS67.drew | apply IsS67.set_1 | apply IsS67.set_2 | refine IsS67.far ?_ NB579_574.out _ | refine IsS67.far ?_ NB579_575.out _) | exact HI579.out)) hb); clear hb hbox hg; have hnb12 := NB586_574.out; have hnc12 := NB574_586.out; have hnb13 := NB586_575.out; have hnc13 := NB575_586.out; have hnb14 := NB586_579.out; have hnc14 := NB579_586.out; obtain ⟨hcz15_0, hcz15_1⟩ := zc2 BK586; have hfz15_0 := zf BK586; obtain ⟨Ao16, co16, eo16⟩ := Kd.S_slice HO583.out; subst eo16) | (refine gl_ (some 11) Try.func26 #[.pointer (some ⟨g579, 0, none⟩), .int .i64 2] ?_; (with_reducible refine (spec_l1Once.calls g579 t576 t584 t585 2 true t588 t589 w _ ?side1 ?side2 A4.out).mono ?_); (case side1 => repeat (first | (with_reducible first | exact HI579.out | apply IsS67.alloc | apply IsS67.drewN | apply IsS67.drew | apply IsS67.set_1 | apply IsS67.set_2 | refine IsS67.far ?_ NB579_574.out _ | refine IsS67.far ?_ NB579_575.out _ | refine IsS67.far ?_ NB579_586.out _) | exact HI579.out)); (case side2 => exact bw HB); rintro e w17 ⟨rfl, hi, hb, hk⟩; refine ⟨_, rfl, ?_⟩; replace BK574 := aM (KeepBut.blk hk (g' := gb574) (o := .cells #[.int .i64 0, .slice none 0 0] 26 (0, 0)) (by refine blk_far ?_ NB574_586.out _; refine blk_far ?_ NB574_586.out _; exact aB BK574) NB574_579.out (by simp)); replace BK575 := aM (KeepBut.blk hk (g' := gb575) (o := .cells #[.int .i64 0, .slice none 0 0] 26 (0, 0)) (by refine blk_far ?_ NB575_586.out _; refine blk_far ?_ NB575_586.out _; exact aB BK575) NB575_579.out (by simp)); replace HO583 := aM (Kd.S_mono (Kd.S_keep (IsS67.apartS (show IsS67 w _ g579 t576 t584 t585 from by repeat (first | (with_reducible first | exact HI579.out | apply IsS67.alloc | apply IsS67.drewN | apply IsS67.drew | apply IsS67.set_1 | apply IsS67.set_2 | refine IsS67.far ?_ NB579_574.out _ | refine IsS67.far ?_ NB579_575.out _ | refine IsS67.far ?_ NB579_586.out _) | exact HI579.out)) (by (with_reducible repeat (first | apply Kd.S_alloc | apply Kd.S_drewN | apply Kd.S_drew)); exact (Kd.S_mono (Kd.S_far (p := ⟨gb586, 1, none⟩) (Kd.S_far (p := ⟨gb586, 0, none⟩) (Kd.S_types HO583.out BK586.out (by decide)) (fun _ hk => hk.2) (.int .i64 t580)) (fun _ hk => hk.2) (.slice Ao16 t581.length co16)) (fun _ h_ => h_.1))) (by decide)) hk (fun _ h => h.2)) (fun _ h => h.1)); replace BK586 := aM (KeepBut.blk hk (g' := gb586) (o := .cells #[.int .i64 t580, .slice Ao16 t581.length co16] 26 (0, 0)) (by refine blk_put (cs := #[.int .i64 t580, .slice none 0 0]) ?_ 1 _ rfl; refine blk_put (cs := #[.int .i64 0, .slice none 0 0]) ?_ 0 _ rfl; exact aB BK586) NB586_579.out (by simp)); replace HB := aM (hb); replace HI579 := aM (hi); (try clear hb); (try clear hb2); (try clear hk); (try clear hi)))
  replace HO583 := aM (Kd.S_drew HO583.out)
  replace BK574 := aM (blk_drew BK574.out)
  replace BK575 := aM (blk_drew BK575.out)
  replace BK586 := aM (blk_drew BK586.out)
  replace HI579 := aM (IsS67.drew HI579.out)
  replace HB := aM (below_drew1 HB.out)
  refine start_ (n := 5) (S := fun w' => w'.cell? ⟨gb586, 0, none⟩ = some (.int .i64 t580) ∧ w'.cell? ⟨gb586, 1, none⟩ = some (.slice Ao16 t581.length co16)) (ds := []) (bz 5 0) (by kernel_rfl) rfl (by kernel_rfl) ⟨(blk_cell BK586.out 0).trans rfl, (blk_cell BK586.out 1).trans rfl⟩ (fun hHeld => ?_)
  generalize w17.drew = w18 at HO583 BK574 BK575 BK586 HI579 HB hHeld ⊢
  refine tA_ 0 (some 12) (bz 5 1) ?_ ?_ hHeld ?_ ?_ ?_
  rotate_left
  ·rintro w' ⟨s0, s1⟩
   go_simp
   with_reducible rfl
  rotate_left
  ·simp only [u6_]
   rfl
  refine tA_ 1 (some 13) (bz 5 3) ?_ ?_ hHeld ?_ ?_ ?_
  rotate_left
  ·rintro w' ⟨s0, s1⟩
   go_simp
   with_reducible rfl
  rotate_left
  ·simp only [u6_]
   rfl
  refine one_ (i := 2) (N := some 14) (bz 5 7) rfl rfl (by kernel_rfl) (by decide) (fun K hK => ?_)
  refine goes_ Try.func30 (by kernel_rfl) rfl #[.agg #[.int .i64 t580, .slice Ao16 t581.length co16]] (by rfl) rfl rfl mp ?_
  with_reducible refine (spec_l6Copy.calls k t580 _ _ t581 t590 t591 _ ?side1 ?side2 A6.out).mono ?_
  (case side1 => exact cA ((Kd.S_reads' HO583.out).2.2))
  (case side2 => exact (Kd.S_reads' HO583.out).2.1)
  rintro e w19 ⟨v592, rfl, ho0, hb⟩
  refine ⟨_, rfl, ?_⟩
  have HO593 := aM (Kd.S_lower (Kd.S_new' ho0 (Kd.S_lt (sS HO583.out))) (below_size (bw HB)))
  replace HO583 := aM (Kd.S_elder' (sS HO583.out) (Kd.S_base ho0) hb)
  replace BK574 := bb BK574 hb
  replace BK575 := bb BK575 hb
  replace HI579 := aM (IsS67.below (by repeat (first | (with_reducible first | exact HI579.out | apply IsS67.alloc | apply IsS67.drewN | apply IsS67.drew | apply IsS67.set_1 | apply IsS67.set_2 | refine IsS67.far ?_ NB579_574.out _ | refine IsS67.far ?_ NB579_575.out _ | refine IsS67.far ?_ NB579_586.out _) | exact HI579.out)) hb)
  replace BK586 := bb BK586 hb
  replace HB := aM (below_step (bw HB) hb)
  (try clear hb)
  (try clear hb2)
  (try clear hk)
  (try clear hi)
  (try clear ho0)
  obtain ⟨Ao23, co23, eo23⟩ := Kd.S_slice HO593.out
  (first | subst eo23 | (injection eo23 with f1_ f2_ f3_; have f4_ := f1_.symm; have f5_ := f3_.symm; clear f1_ f2_ f3_; subst f4_; subst f5_))
  refine hK.out _ _ ⟨(blk_cell BK586.out 0).trans rfl, (blk_cell BK586.out 1).trans rfl⟩ (fun hHeld => ?_)
  clear hK K
  refine norm_ (a' := ?_) ?_ ?_
  rotate_left
  ·show Act.put _ (some 14) _ = _
   simp only [u6_]
   rfl
  refine one_ (i := 3) (N := none) (bz 5 15) rfl rfl (by kernel_rfl) (by decide) (fun K hK => ?_)
  have hs20 : w19.cell? ⟨gb574, 0, none⟩ = some (.int .i64 0) := (blk_cell BK574.out 0).trans rfl
  have hfs20 := blk_frozen BK574.out 0
  have hns20_1 := NB575_574.out
  have hns20_2 := NB586_574.out
  have hms20_1 := NB574_575.out
  have hms20_2 := NB574_586.out
  have hs21 : w19.cell? ⟨gb574, 1, none⟩ = some (.slice none 0 0) := (blk_cell BK574.out 1).trans rfl
  have hfs21 := blk_frozen BK574.out 1
  have hns21_1 := NB575_574.out
  have hns21_2 := NB586_574.out
  have hms21_1 := NB574_575.out
  have hms21_2 := NB574_586.out
  refine skip_ (w1 := ?_) (by rfl) rfl ?_ ?_
  rotate_left
  ·go_simp
   rfl
  refine hK.out _ _ ⟨((cell_far (p := ⟨gb574, _, none⟩) NB586_574.out _).trans (((cell_far (p := ⟨gb574, _, none⟩) NB586_574.out _).trans (hHeld.1)))), ((cell_far (p := ⟨gb574, _, none⟩) NB586_574.out _).trans (((cell_far (p := ⟨gb574, _, none⟩) NB586_574.out _).trans (hHeld.2))))⟩ (fun hHeld => ?_)
  clear hK K
  refine one_ (i := 4) (N := none) (bz 5 31) rfl rfl (by kernel_rfl) (by decide) (fun K hK => ?_)
  have hs22 : w19.cell? ⟨gb575, 0, none⟩ = some (.int .i64 0) := (blk_cell BK575.out 0).trans rfl
  have hfs22 := blk_frozen BK575.out 0
  have hns22_0 := NB574_575.out
  have hns22_2 := NB586_575.out
  have hms22_0 := NB575_574.out
  have hms22_2 := NB575_586.out
  have hs24 : w19.cell? ⟨gb575, 1, none⟩ = some (.slice none 0 0) := (blk_cell BK575.out 1).trans rfl
  have hfs24 := blk_frozen BK575.out 1
  have hns24_0 := NB574_575.out
  have hns24_2 := NB586_575.out
  have hms24_0 := NB575_574.out
  have hms24_2 := NB575_586.out
  refine skip_ (w1 := ?_) (by rfl) rfl ?_ ?_
  rotate_left
  ·go_simp
   rfl
  refine hK.out _ _ ⟨((cell_far (p := ⟨gb575, _, none⟩) NB586_575.out _).trans (((cell_far (p := ⟨gb575, _, none⟩) NB586_575.out _).trans (hHeld.1)))), ((cell_far (p := ⟨gb575, _, none⟩) NB586_575.out _).trans (((cell_far (p := ⟨gb575, _, none⟩) NB586_575.out _).trans (hHeld.2))))⟩ (fun hHeld => ?_)
  clear hK K
  refine done_ (by kernel_rfl) ?_
  try go_wp2
  refine bodyPost_ret (results_cc rfl _ _ gb574 gb575 26 26 #[.int .i64 t580, .slice Ao16 t581.length co16] #[.int .i64 t590, .slice Ao23 t591.length co23] (0, 0) (0, 0) _ _ rfl (by refine blk_far ?_ NB574_575.out _; refine blk_far ?_ NB574_575.out _; refine blk_put (cs := #[.int .i64 t580, .slice none 0 0]) ?_ 1 _ rfl; refine blk_put (cs := #[.int .i64 0, .slice none 0 0]) ?_ 0 _ rfl; exact aB BK574) Try.underlying26 rfl (by kernel_rfl) rfl (by refine blk_put (cs := #[.int .i64 t590, .slice none 0 0]) ?_ 1 _ rfl; refine blk_put (cs := #[.int .i64 0, .slice none 0 0]) ?_ 0 _ rfl; refine blk_far ?_ NB575_574.out _; refine blk_far ?_ NB575_574.out _; exact aB BK575) Try.underlying26 rfl (by kernel_rfl)) rfl ?_
  exact ⟨_, _, er, by (with_reducible repeat (first | apply Kd.S_alloc | apply Kd.S_drewN | apply Kd.S_drew)); exact Kd.S_mono (Kd.S_far (p := ⟨gb575, 1, none⟩) (Kd.S_far (p := ⟨gb575, 0, none⟩) (Kd.S_far (p := ⟨gb574, 1, none⟩) (Kd.S_far (p := ⟨gb574, 0, none⟩) (Kd.S_types (Kd.S_types HO583.out BK574.out (by decide)) BK575.out (by decide)) (fun _ hk => hk.1.2) (.int .i64 t580)) (fun _ hk => hk.1.2) (.slice Ao16 t581.length co16)) (fun _ hk => hk.2) (.int .i64 t590)) (fun _ hk => hk.2) (.slice Ao23 t591.length co23)) (fun _ hk => hk.1.1.2), by (with_reducible repeat (first | apply Kd.S_alloc | apply Kd.S_drewN | apply Kd.S_drew)); exact Kd.S_mono (Kd.S_far (p := ⟨gb575, 1, none⟩) (Kd.S_far (p := ⟨gb575, 0, none⟩) (Kd.S_far (p := ⟨gb574, 1, none⟩) (Kd.S_far (p := ⟨gb574, 0, none⟩) (Kd.S_types (Kd.S_types HO593.out BK574.out (by decide)) BK575.out (by decide)) (fun _ hk => hk.1.2) (.int .i64 t580)) (fun _ hk => hk.1.2) (.slice Ao16 t581.length co16)) (fun _ hk => hk.2) (.int .i64 t590)) (fun _ hk => hk.2) (.slice Ao23 t591.length co23)) (fun _ hk => hk.1.1.2), (bw HB)⟩
 ·replace c5 := Bool.eq_false_iff.mpr c5
  subst c5
  have H1 : ((spec_l6Any.f k t576 t588 t589).bind fun bt594 => (some (t580, t581, bt594.1, bt594.2.1))) = some (r1, r2, r3, r4) := by rw [if_neg (show ¬ (false = true) by decide)] at H; exact H
  clear H
  have H := H1
  clear H1; replace H := bs_ H
  obtain ⟨⟨t594, t595, t598, t599⟩, A250, H⟩ := H
  try dsimp only at H
  have A25 := aM A250
  clear A250
  simp only [Option.some.injEq, Prod.mk.injEq] at H
  obtain ⟨rfl, rfl, rfl, rfl⟩ := H
  go_enter Try.func9, Try.ntmps9
  try go_wp2_with (first | (refine be_ 2 #[.int .i64 0, .slice none 0 0] 26 ?_; intro gb574 hg w26 hbox hb; have BK574 := aM (hbox); have GW574 := gw hg (bw HB); have GE574 := gw hg (bw HB); replace HB := aM (below_step (bw HB) hb); clear hb hbox hg) | (refine be_ 3 #[.int .i64 0, .slice none 0 0] 26 ?_; intro gb575 hg w27 hbox hb; have BK575 := aM (hbox); have GW575 := gw hg (bw HB); have GE575 := gw hg (bw HB); replace HB := aM (below_step (bw HB) hb); have NB574_575 := nb1 hg BK574; have NB575_574 := nb2 hg BK574; replace BK574 := bb BK574 hb; clear hb hbox hg) | (refine gl_ (some 7) Try.func23 #[.slice A0 l0.length c0] ?_; (with_reducible refine (spec_l1New.calls k _ _ l0 t576 t577 t578 w _ ?side1 ?side2 ?side3 A2.out).mono ?_); (case side1 => exact bw HB); (case side2 => exact HR0.out); (case side3 => exact HC0.out); rintro e w28 ⟨g579, rfl, hi, hb, hb2⟩; refine ⟨_, rfl, ?_⟩; replace HB := aM (hb); have HI579 := aM (hi); have NB579_574 := aM (IsS67.ne_blk hi (blk_below (g := gb574) (aB BK574) hb2) (by decide)); have NB574_579 := aM (Ne.symm (IsS67.ne_blk hi (blk_below (g := gb574) (aB BK574) hb2) (by decide))); replace BK574 := aM (blk_below (g := gb574) (aB BK574) hb2); have NB579_575 := aM (IsS67.ne_blk hi (blk_below (g := gb575) (aB BK575) hb2) (by decide)); have NB575_579 := aM (Ne.symm (IsS67.ne_blk hi (blk_below (g := gb575) (aB BK575) hb2) (by decide))); replace BK575 := aM (blk_below (g := gb575) (aB BK575) hb2); (try clear hb); (try clear hb2); (try clear hk); (try clear hi)) | (refine gl_ (some 9) Try.func24 #[.pointer (some ⟨g579, 0, none⟩)] ?_; (with_reducible refine (spec_l6Any.calls k g579 t576 t577 t578 t580 t581 t584 t585 w _ ?side1 ?side2 A3.out).mono ?_); (case side1 => repeat (first | (with_reducible first | exact HI579.out | apply IsS67.alloc | apply IsS67.drewN | apply IsS67.drew | apply IsS67.set_1 | apply IsS67.set_2 | refine IsS67.far ?_ NB579_574.out _ | refine IsS67.far ?_ NB579_575.out _) | exact HI579.out)); (case side2 => exact bw HB); rintro e w29 ⟨v582, rfl, ho0, hi, hb, hk⟩; refine ⟨_, rfl, ?_⟩; replace BK574 := aM (KeepBut.blk hk (g' := gb574) (aB BK574) NB574_579.out (by simp)); replace BK575 := aM (KeepBut.blk hk (g' := gb575) (aB BK575) NB575_579.out (by simp)); have HO583 := aM (Kd.S_lower ho0 (below_size (bw HB))); replace HB := aM (hb); replace HI579 := aM (hi); (try clear hb); (try clear hb2); (try clear hk); (try clear hi); (try clear ho0)) | (refine be_ 5 #[.int .i64 0, .slice none 0 0] 26 ?_; intro gb586 hg w30 hbox hb; replace HO583 := aM (Kd.S_below (sS HO583.out) hb); have BK586 := aM (hbox); have GW586 := gw hg (bw HB); have GE586 := gw hg (bw HB); replace HB := aM (below_step (bw HB) hb); have NB574_586 := nb1 hg BK574; have NB586_574 := nb2 hg BK574; replace BK574 := bb BK574 hb; have NB575_586 := nb1 hg BK575; have NB586_575 := nb2 hg BK575; replace BK575 := bb BK575 hb; have NB579_586 := aM ((by rw [hg]; exact Nat.ne_of_lt (IsS67.lt (show IsS67 w _ g579 t576 t584 t585 from by repeat (first | (with_reducible first | exact HI579.out | apply IsS67.alloc | apply IsS67.drewN | apply IsS67.drew | apply IsS67.set_1 | apply IsS67.set_2 | refine IsS67.far ?_ NB579_574.out _ | refine IsS67.far ?_ NB579_575.out _) | exact HI579.out))) : g579 ≠ gb586)); have NB586_579 := aM ((by rw [hg]; exact Nat.ne_of_gt (IsS67.lt (show IsS67 w _ g579 t576 t584 t585 from by repeat (first | (with_reducible first | exact HI579.out | apply IsS67.alloc | apply IsS67.drewN | apply IsS67.drew | apply IsS67.set_1 | apply IsS67.set_2 | refine IsS67.far ?_ NB579_574.out _ | refine IsS67.far ?_ NB579_575.out _) | exact HI579.out))) : gb586 ≠ g579)); replace HI579 := aM (IsS67.below (by repeat (first | (with_reducible first | exact HI579.out | apply IsS67.alloc | apply IsS67.drewN | apply IsS67.drew | apply IsS67.set_1 | apply IsS67.set_2 | refine IsS67.far ?_ NB579_574.out _ | refine IsS67.far ?_ NB579_575.out _) | exact HI579.out)) hb); clear hb hbox hg; have hnb31 := NB586_574.out; have hnc31 := NB574_586.out; have hnb32 := NB586_575.out; have hnc32 := NB575_586.out; have hnb33 := NB586_579.out; have hnc33 := NB579_586.out; obtain ⟨hcz34_0, hcz34_1⟩ := zc2 BK586; have hfz34_0 := zf BK586; obtain ⟨Ao35, co35, eo35⟩ := Kd.S_slice HO583.out; subst eo35) | (refine gl_ (some 11) Try.func26 #[.pointer (some ⟨g579, 0, none⟩), .int .i64 2] ?_; (with_reducible refine (spec_l1Once.calls g579 t576 t584 t585 2 false t588 t589 w _ ?side1 ?side2 A4.out).mono ?_); (case side1 => repeat (first | (with_reducible first | exact HI579.out | apply IsS67.alloc | apply IsS67.drewN | apply IsS67.drew | apply IsS67.set_1 | apply IsS67.set_2 | refine IsS67.far ?_ NB579_574.out _ | refine IsS67.far ?_ NB579_575.out _ | refine IsS67.far ?_ NB579_586.out _) | exact HI579.out)); (case side2 => exact bw HB); rintro e w36 ⟨rfl, hi, hb, hk⟩; refine ⟨_, rfl, ?_⟩; replace BK574 := aM (KeepBut.blk hk (g' := gb574) (o := .cells #[.int .i64 0, .slice none 0 0] 26 (0, 0)) (by refine blk_far ?_ NB574_586.out _; refine blk_far ?_ NB574_586.out _; exact aB BK574) NB574_579.out (by simp)); replace BK575 := aM (KeepBut.blk hk (g' := gb575) (o := .cells #[.int .i64 0, .slice none 0 0] 26 (0, 0)) (by refine blk_far ?_ NB575_586.out _; refine blk_far ?_ NB575_586.out _; exact aB BK575) NB575_579.out (by simp)); replace HO583 := aM (Kd.S_mono (Kd.S_keep (IsS67.apartS (show IsS67 w _ g579 t576 t584 t585 from by repeat (first | (with_reducible first | exact HI579.out | apply IsS67.alloc | apply IsS67.drewN | apply IsS67.drew | apply IsS67.set_1 | apply IsS67.set_2 | refine IsS67.far ?_ NB579_574.out _ | refine IsS67.far ?_ NB579_575.out _ | refine IsS67.far ?_ NB579_586.out _) | exact HI579.out)) (by (with_reducible repeat (first | apply Kd.S_alloc | apply Kd.S_drewN | apply Kd.S_drew)); exact (Kd.S_mono (Kd.S_far (p := ⟨gb586, 1, none⟩) (Kd.S_far (p := ⟨gb586, 0, none⟩) (Kd.S_types HO583.out BK586.out (by decide)) (fun _ hk => hk.2) (.int .i64 t580)) (fun _ hk => hk.2) (.slice Ao35 t581.length co35)) (fun _ h_ => h_.1))) (by decide)) hk (fun _ h => h.2)) (fun _ h => h.1)); replace BK586 := aM (KeepBut.blk hk (g' := gb586) (o := .cells #[.int .i64 t580, .slice Ao35 t581.length co35] 26 (0, 0)) (by refine blk_put (cs := #[.int .i64 t580, .slice none 0 0]) ?_ 1 _ rfl; refine blk_put (cs := #[.int .i64 0, .slice none 0 0]) ?_ 0 _ rfl; exact aB BK586) NB586_579.out (by simp)); replace HB := aM (hb); replace HI579 := aM (hi); (try clear hb); (try clear hb2); (try clear hk); (try clear hi)))
  replace HO583 := aM (Kd.S_drew HO583.out)
  replace BK574 := aM (blk_drew BK574.out)
  replace BK575 := aM (blk_drew BK575.out)
  replace BK586 := aM (blk_drew BK586.out)
  replace HI579 := aM (IsS67.drew HI579.out)
  replace HB := aM (below_drew1 HB.out)
  refine start_ (n := 5) (S := fun w' => w'.cell? ⟨gb586, 0, none⟩ = some (.int .i64 t580) ∧ w'.cell? ⟨gb586, 1, none⟩ = some (.slice Ao35 t581.length co35)) (ds := []) (bz 5 0) (by kernel_rfl) rfl (by kernel_rfl) ⟨(blk_cell BK586.out 0).trans rfl, (blk_cell BK586.out 1).trans rfl⟩ (fun hHeld => ?_)
  generalize w36.drew = w37 at HO583 BK574 BK575 BK586 HI579 HB hHeld ⊢
  refine pA_ 1 (some 16) (bz 5 2) ?_ ?_ ?_ ?_ ?_
  rotate_left
  ·intro w'
   go_simp
   with_reducible rfl
  rotate_left
  ·simp only [u6_]
   rfl
  refine tA_ 0 (some 15) (bz 5 3) ?_ ?_ hHeld ?_ ?_ ?_
  rotate_left
  ·rintro w' ⟨s0, s1⟩
   go_simp
   with_reducible rfl
  rotate_left
  ·simp only [u6_]
   rfl
  refine one_ (i := 2) (N := some 17) (bz 5 7) rfl rfl (by kernel_rfl) (by decide) (fun K hK => ?_)
  refine goes_ Try.func24 (by kernel_rfl) rfl #[.pointer (some ⟨g579, 0, none⟩)] (by rfl) rfl rfl mp ?_
  with_reducible refine (spec_l6Any.calls k g579 t576 t588 t589 t594 t595 t598 t599 w _ ?side1 ?side2 A25.out).mono ?_
  (case side1 => repeat (first | (with_reducible first | exact HI579.out | apply IsS67.alloc | apply IsS67.drewN | apply IsS67.drew | apply IsS67.set_1 | apply IsS67.set_2 | refine IsS67.far ?_ NB579_574.out _ | refine IsS67.far ?_ NB579_575.out _ | refine IsS67.far ?_ NB579_586.out _) | exact HI579.out))
  (case side2 => exact bw HB)
  rintro e w38 ⟨v596, rfl, ho0, hi, hb, hk⟩
  refine ⟨_, rfl, ?_⟩
  replace BK574 := aM (KeepBut.blk hk (g' := gb574) (aB BK574) NB574_579.out (by simp))
  replace BK575 := aM (KeepBut.blk hk (g' := gb575) (aB BK575) NB575_579.out (by simp))
  replace BK586 := aM (KeepBut.blk hk (g' := gb586) (aB BK586) NB586_579.out (by simp))
  have HO597 := aM (Kd.S_lower (Kd.S_new' ho0 (Kd.S_lt (sS HO583.out))) (below_size (bw HB)))
  replace HO583 := aM (Kd.S_mono (Kd.S_told (Kd.S_oldK (IsS67.apartS (show IsS67 w _ g579 t576 t588 t589 from by repeat (first | (with_reducible first | exact HI579.out | apply IsS67.alloc | apply IsS67.drewN | apply IsS67.drew | apply IsS67.set_1 | apply IsS67.set_2 | refine IsS67.far ?_ NB579_574.out _ | refine IsS67.far ?_ NB579_575.out _ | refine IsS67.far ?_ NB579_586.out _) | exact HI579.out)) (sS HO583.out) (by decide)) hk) (Kd.S_base ho0)) (fun _ h_ => h_.1))
  replace HB := aM (hb)
  replace HI579 := aM (hi)
  (try clear hb)
  (try clear hb2)
  (try clear hk)
  (try clear hi)
  (try clear ho0)
  obtain ⟨Ao42, co42, eo42⟩ := Kd.S_slice HO597.out
  (first | subst eo42 | (injection eo42 with f1_ f2_ f3_; have f4_ := f1_.symm; have f5_ := f3_.symm; clear f1_ f2_ f3_; subst f4_; subst f5_))
  refine hK.out _ _ ⟨(blk_cell BK586.out 0).trans rfl, (blk_cell BK586.out 1).trans rfl⟩ (fun hHeld => ?_)
  clear hK K
  refine norm_ (a' := ?_) ?_ ?_
  rotate_left
  ·show Act.put _ (some 17) _ = _
   simp only [u6_]
   rfl
  refine one_ (i := 3) (N := none) (bz 5 15) rfl rfl (by kernel_rfl) (by decide) (fun K hK => ?_)
  have hs39 : w38.cell? ⟨gb574, 0, none⟩ = some (.int .i64 0) := (blk_cell BK574.out 0).trans rfl
  have hfs39 := blk_frozen BK574.out 0
  have hns39_1 := NB575_574.out
  have hns39_2 := NB586_574.out
  have hms39_1 := NB574_575.out
  have hms39_2 := NB574_586.out
  have hs40 : w38.cell? ⟨gb574, 1, none⟩ = some (.slice none 0 0) := (blk_cell BK574.out 1).trans rfl
  have hfs40 := blk_frozen BK574.out 1
  have hns40_1 := NB575_574.out
  have hns40_2 := NB586_574.out
  have hms40_1 := NB574_575.out
  have hms40_2 := NB574_586.out
  refine skip_ (w1 := ?_) (by rfl) rfl ?_ ?_
  rotate_left
  ·go_simp
   rfl
  refine hK.out _ _ ⟨((cell_far (p := ⟨gb574, _, none⟩) NB586_574.out _).trans (((cell_far (p := ⟨gb574, _, none⟩) NB586_574.out _).trans (hHeld.1)))), ((cell_far (p := ⟨gb574, _, none⟩) NB586_574.out _).trans (((cell_far (p := ⟨gb574, _, none⟩) NB586_574.out _).trans (hHeld.2))))⟩ (fun hHeld => ?_)
  clear hK K
  refine one_ (i := 4) (N := none) (bz 5 31) rfl rfl (by kernel_rfl) (by decide) (fun K hK => ?_)
  have hs41 : w38.cell? ⟨gb575, 0, none⟩ = some (.int .i64 0) := (blk_cell BK575.out 0).trans rfl
  have hfs41 := blk_frozen BK575.out 0
  have hns41_0 := NB574_575.out
  have hns41_2 := NB586_575.out
  have hms41_0 := NB575_574.out
  have hms41_2 := NB575_586.out
  have hs43 : w38.cell? ⟨gb575, 1, none⟩ = some (.slice none 0 0) := (blk_cell BK575.out 1).trans rfl
  have hfs43 := blk_frozen BK575.out 1
  have hns43_0 := NB574_575.out
  have hns43_2 := NB586_575.out
  have hms43_0 := NB575_574.out
  have hms43_2 := NB575_586.out
  refine skip_ (w1 := ?_) (by rfl) rfl ?_ ?_
  rotate_left
  ·go_simp
   rfl
  refine hK.out _ _ ⟨((cell_far (p := ⟨gb575, _, none⟩) NB586_575.out _).trans (((cell_far (p := ⟨gb575, _, none⟩) NB586_575.out _).trans (hHeld.1)))), ((cell_far (p := ⟨gb575, _, none⟩) NB586_575.out _).trans (((cell_far (p := ⟨gb575, _, none⟩) NB586_575.out _).trans (hHeld.2))))⟩ (fun hHeld => ?_)
  clear hK K
  refine done_ (by kernel_rfl) ?_
  try go_wp2
  refine bodyPost_ret (results_cc rfl _ _ gb574 gb575 26 26 #[.int .i64 t580, .slice Ao35 t581.length co35] #[.int .i64 t594, .slice Ao42 t595.length co42] (0, 0) (0, 0) _ _ rfl (by refine blk_far ?_ NB574_575.out _; refine blk_far ?_ NB574_575.out _; refine blk_put (cs := #[.int .i64 t580, .slice none 0 0]) ?_ 1 _ rfl; refine blk_put (cs := #[.int .i64 0, .slice none 0 0]) ?_ 0 _ rfl; exact aB BK574) Try.underlying26 rfl (by kernel_rfl) rfl (by refine blk_put (cs := #[.int .i64 t594, .slice none 0 0]) ?_ 1 _ rfl; refine blk_put (cs := #[.int .i64 0, .slice none 0 0]) ?_ 0 _ rfl; refine blk_far ?_ NB575_574.out _; refine blk_far ?_ NB575_574.out _; exact aB BK575) Try.underlying26 rfl (by kernel_rfl)) rfl ?_
  exact ⟨_, _, er, by (with_reducible repeat (first | apply Kd.S_alloc | apply Kd.S_drewN | apply Kd.S_drew)); exact Kd.S_mono (Kd.S_far (p := ⟨gb575, 1, none⟩) (Kd.S_far (p := ⟨gb575, 0, none⟩) (Kd.S_far (p := ⟨gb574, 1, none⟩) (Kd.S_far (p := ⟨gb574, 0, none⟩) (Kd.S_types (Kd.S_types HO583.out BK574.out (by decide)) BK575.out (by decide)) (fun _ hk => hk.1.2) (.int .i64 t580)) (fun _ hk => hk.1.2) (.slice Ao35 t581.length co35)) (fun _ hk => hk.2) (.int .i64 t594)) (fun _ hk => hk.2) (.slice Ao42 t595.length co42)) (fun _ hk => hk.1.1.2), by (with_reducible repeat (first | apply Kd.S_alloc | apply Kd.S_drewN | apply Kd.S_drew)); exact Kd.S_mono (Kd.S_far (p := ⟨gb575, 1, none⟩) (Kd.S_far (p := ⟨gb575, 0, none⟩) (Kd.S_far (p := ⟨gb574, 1, none⟩) (Kd.S_far (p := ⟨gb574, 0, none⟩) (Kd.S_types (Kd.S_types HO597.out BK574.out (by decide)) BK575.out (by decide)) (fun _ hk => hk.1.2) (.int .i64 t580)) (fun _ hk => hk.1.2) (.slice Ao35 t581.length co35)) (fun _ hk => hk.2) (.int .i64 t594)) (fun _ hk => hk.2) (.slice Ao42 t595.length co42)) (fun _ hk => hk.1.1.2), (bw HB)⟩

end Go.Proofs.Ytdhignbneeapiaa.PFnChains
