/- What the Go functions that FnChains reaches compute, as Lean functions, and that the machine's calls do so; no conditions. -/
import Derived.Test.YtdhignbneeapiaaPFnChainsx0
import Derived.Test.YtdhignbneeapiaaPFnChainsx1
import Derived.Test.YtdhignbneeapiaaPFnChainsx2
import Derived.Test.YtdhignbneeapiaaPFnChainsx8
import Derived.Test.YtdhignbneeapiaaPFnChainsx9
namespace Go.Proofs.Ytdhignbneeapiaa.PFnChains
open Go.Proofs.Ytdhignbneeapiaa
open Go.RowKit Go.Proofs.YtdhignbneeapiaaW.PrintWords Go.Proofs.YtdhignbneeapiaaW.PrintLast Go.Proofs.YtdhignbneeapiaaW.PrintMore
attribute [local go_sem] max2_int min2_int max_two min_two max_three min_three max_four min_four   -- for this text's walks alone
set_option linter.unusedVariables false
set_option linter.unusedSimpArgs false
set_option maxHeartbeats 8000000
set_option maxRecDepth 100000

attribute [local go_sem high] eqA76
/-! ### spec_l6Any: function 24 -/
def spec_l6Any.f (k : Nat) (s0_0 : List Int) (s0_1 : Int) (s0_2 : Int) : Option (Int × (List (S29)) × Int × Int) := (spec_l6Draw.f k s0_0 s0_1 s0_2).bind fun bt424 => ((spec_l1Below.f s0_0 bt424.2.2.1 bt424.2.2.2 8).bind fun bt431 => (if bt431.1 = 0 then ((spec_l1Below.f s0_0 bt431.2.1 bt431.2.2 33).bind fun bt434 => (some (bt434.1, bt424.2.1, bt434.2.1, bt434.2.2))) else (if bt431.1 = 1 then ((spec_l4Any.f k s0_0 bt431.2.1 bt431.2.2).bind fun bt437 => (if bt424.2.1.length < 2513169434916 then (some (bt424.1, (bt424.2.1 ++ [(⟨bt437.1, bt437.2.1, bt437.2.2.1, bt437.2.2.2.1⟩ : S29)]), bt437.2.2.2.2.1, bt437.2.2.2.2.2)) else (none))) else (if bt431.1 = 2 then (if 0 < (bt424.2.1.length : Int) then ((spec_l4Copy.f ((rd_T29 bt424.2.1 0).f0) ((rd_T29 bt424.2.1 0).f1) ((rd_T29 bt424.2.1 0).f2) ((rd_T29 bt424.2.1 0).f3)).bind fun bt449 => (if bt424.2.1.length < 2513169434916 then (some (bt424.1, (bt424.2.1 ++ [(⟨bt449.1, bt449.2.1, bt449.2.2.1, bt449.2.2.2⟩ : S29)]), bt431.2.1, bt431.2.2)) else (none))) else (none)) else (if bt431.1 = 3 then (some (bt424.1, (([] : List (S29))), bt431.2.1, bt431.2.2)) else (some (bt424.1, bt424.2.1, bt431.2.1, bt431.2.2)))))))
def spec_l6Any.T6 : Bool × List (List Nat × List Nat) := (true, [([], []), ([0], [0]), ([], []), ([2], [2]), ([3], [3]), ([1, 4, 3], [1, 4]), ([0, 1, 2, 3, 4, 5], []), ([6, 5, 5, 0, 1, 2, 3, 4, 5], [5, 6])])
def spec_l6Any.B6 : List Nat := [0, 1, 0, 4, 12, 31, 63, 127]
theorem spec_l6Any.tab6 : rtab .any (opsOf Try.f24 6) = spec_l6Any.T6 := by kernel_rfl
theorem spec_l6Any.bits6 : waitsOk spec_l6Any.T6.2 spec_l6Any.B6 = true := by kernel_rfl
def spec_l6Any.T8 : Bool × List (List Nat × List Nat) := (true, [([], []), ([0], [0]), ([], []), ([2], [2]), ([3], [3]), ([4], [4]), ([5], [5]), ([6], [6]), ([1, 7, 6], [1, 7]), ([0, 1, 2, 3, 4, 5, 6, 7, 8], []), ([9, 8, 8, 0, 1, 2, 3, 4, 5, 6, 7, 8], [8, 9])])
def spec_l6Any.B8 : List Nat := [0, 1, 0, 4, 12, 28, 60, 124, 255, 511, 1023]
theorem spec_l6Any.tab8 : rtab .any (opsOf Try.f24 8) = spec_l6Any.T8 := by kernel_rfl
theorem spec_l6Any.bits8 : waitsOk spec_l6Any.T8.2 spec_l6Any.B8 = true := by kernel_rfl
theorem spec_l6Any.calls (k : Nat) (g : Nat) (s0_0 : List Int) (s0_1 : Int) (s0_2 : Int) (r1 : Int) (r2 : List (S29)) (r3 : Int) (r4 : Int) (w0 w : World) (hI : IsS67 w0 w g s0_0 s0_1 s0_2) (hB : Below w0.heap.size w0 w) (h : spec_l6Any.f k s0_0 s0_1 s0_2 = some (r1, r2, r3, r4)) :
    Calls Try.prog 24 #[.pointer (some ⟨g, 0, none⟩)] w fun e w' => ∃ v1_ : Value, e = .returned (.agg #[.int .i64 r1, v1_]) ∧ Kd.S k29 29 w' w.heap.size (fun _ => True) v1_ r2 ∧ IsS67 w0 w' g s0_0 r3 r4 ∧ Below w0.heap.size w0 w' ∧ KeepBut w w' g none := by
  have hu26 := Try.underlying26
  have hu29 := Try.underlying29
  have HI0 := aM hI
  have HK := aM (KeepBut.refl w g none)
  have HL := aM hB.size
  clear hI
  have HW0 := aM hB.size
  have HB := aM hB
  clear hB
  have H : ((spec_l6Draw.f k s0_0 s0_1 s0_2).bind fun bt424 => ((spec_l1Below.f s0_0 bt424.2.2.1 bt424.2.2.2 8).bind fun bt431 => (if bt431.1 = 0 then ((spec_l1Below.f s0_0 bt431.2.1 bt431.2.2 33).bind fun bt434 => (some (bt434.1, bt424.2.1, bt434.2.1, bt434.2.2))) else (if bt431.1 = 1 then ((spec_l4Any.f k s0_0 bt431.2.1 bt431.2.2).bind fun bt437 => (if bt424.2.1.length < 2513169434916 then (some (bt424.1, (bt424.2.1 ++ [(⟨bt437.1, bt437.2.1, bt437.2.2.1, bt437.2.2.2.1⟩ : S29)]), bt437.2.2.2.2.1, bt437.2.2.2.2.2)) else (none))) else (if bt431.1 = 2 then (if 0 < (bt424.2.1.length : Int) then ((spec_l4Copy.f ((rd_T29 bt424.2.1 0).f0) ((rd_T29 bt424.2.1 0).f1) ((rd_T29 bt424.2.1 0).f2) ((rd_T29 bt424.2.1 0).f3)).bind fun bt449 => (if bt424.2.1.length < 2513169434916 then (some (bt424.1, (bt424.2.1 ++ [(⟨bt449.1, bt449.2.1, bt449.2.2.1, bt449.2.2.2⟩ : S29)]), bt431.2.1, bt431.2.2)) else (none))) else (none)) else (if bt431.1 = 3 then (some (bt424.1, (([] : List (S29))), bt431.2.1, bt431.2.2)) else (some (bt424.1, bt424.2.1, bt431.2.1, bt431.2.2)))))))) = some (r1, r2, r3, r4) := h
  clear h; replace H := bs_ H
  obtain ⟨⟨t424, t425, t428, t429⟩, A20, H⟩ := H
  try dsimp only at H
  have A2 := aM A20
  clear A20; replace H := bs_ H
  obtain ⟨⟨t431, t432, t433⟩, A30, H⟩ := H
  try dsimp only at H
  have A3 := aM A30
  clear A30
  by_cases c4 : t431 = 0
  · rw [if_pos c4] at H
    have c4b0 : (t431 == 0) = true := beq_iff_eq.mpr c4
    have c4b1 : (t431 != 0) = false := bne_eq_false_iff_eq.mpr c4
    clear c4; replace H := bs_ H
    obtain ⟨⟨t434, t435, t436⟩, A50, H⟩ := H
    try dsimp only at H
    have A5 := aM A50
    clear A50
    simp only [Option.some.injEq, Prod.mk.injEq] at H
    obtain ⟨rfl, rfl, rfl, rfl⟩ := H
    go_enter Try.func24, Try.ntmps24
    go_wp2_with (first | (refine be_ 2 #[.int .i64 0, .slice none 0 0] 26 ?_; intro gb423 hg w6 hbox hb; replace HB := aM (below_step (bw HB) hb); have BK423 := aM (hbox); have GW423 := gk hg (kw HK); have GE423 := aM ((Nat.le_trans HW0.out (by rw [hg]; exact (keep_size (w := w) (g := g) (row := none) (kw HK)) : w.heap.size ≤ gb423) : w0.heap.size ≤ gb423)); replace HK := aM (KeepBut.trans (kw HK) (KeepBut.of_below hb g none) (.inl rfl)); have NB0_423 := aM ((by rw [hg]; exact Nat.ne_of_lt (IsS67.lt (show IsS67 w0 _ g s0_0 s0_1 s0_2 from (iw HI0))) : g ≠ gb423)); have NB423_0 := aM ((by rw [hg]; exact Nat.ne_of_gt (IsS67.lt (show IsS67 w0 _ g s0_0 s0_1 s0_2 from (iw HI0))) : gb423 ≠ g)); replace HI0 := aM (IsS67.below (iw HI0) hb); clear hb hbox hg) | (refine gl_ (some 5) Try.func48 #[.pointer (some ⟨g, 0, none⟩)] ?_; (with_reducible refine (spec_l6Draw.calls k g s0_0 s0_1 s0_2 t424 t425 t428 t429 w0 _ ?side1 ?side2 A2.out).mono ?_); (case side1 => exact iw HI0); (case side2 => exact bw HB); rintro e w7 ⟨v426, rfl, ho0, hi, hb, hk⟩; refine ⟨_, rfl, ?_⟩; replace BK423 := aM (KeepBut.blk hk (g' := gb423) (aB BK423) NB423_0.out (by simp)); have HO427 := aM (Kd.S_lower ho0 (keep_size (w := w) (g := g) (row := none) (kw HK))); replace HK := aM (KeepBut.trans (kw HK) hk (.inl rfl)); replace HB := aM (hb); replace HI0 := aM (hi); (try clear hb); (try clear hb2); (try clear hk); (try clear hi); (try clear ho0)) | (refine be_ 3 #[.int .i64 0, .slice none 0 0] 26 ?_; intro gb430 hg w8 hbox hb; replace HO427 := aM (Kd.S_below (sS HO427.out) hb); replace HB := aM (below_step (bw HB) hb); have BK430 := aM (hbox); have GW430 := gk hg (kw HK); have GE430 := aM ((Nat.le_trans HW0.out (by rw [hg]; exact (keep_size (w := w) (g := g) (row := none) (kw HK)) : w.heap.size ≤ gb430) : w0.heap.size ≤ gb430)); replace HK := aM (KeepBut.trans (kw HK) (KeepBut.of_below hb g none) (.inl rfl)); have NB423_430 := nb1 hg BK423; have NB430_423 := nb2 hg BK423; replace BK423 := bb BK423 hb; have NB0_430 := aM ((by rw [hg]; exact Nat.ne_of_lt (IsS67.lt (show IsS67 w0 _ g s0_0 t428 t429 from (iw HI0))) : g ≠ gb430)); have NB430_0 := aM ((by rw [hg]; exact Nat.ne_of_gt (IsS67.lt (show IsS67 w0 _ g s0_0 t428 t429 from (iw HI0))) : gb430 ≠ g)); replace HI0 := aM (IsS67.below (iw HI0) hb); clear hb hbox hg; have hnb9 := NB430_423.out; have hnc9 := NB423_430.out; have hnb10 := NB430_0.out; have hnc10 := NB0_430.out; obtain ⟨hcz11_0, hcz11_1⟩ := zc2 BK430; have hfz11_0 := zf BK430; obtain ⟨Ao12, co12, eo12⟩ := Kd.S_slice HO427.out; subst eo12) | (refine gl_ (some 7) Try.func27 #[.pointer (some ⟨g, 0, none⟩), .int .i64 8] ?_; (with_reducible refine (spec_l1Below.calls g s0_0 t428 t429 8 t431 t432 t433 w0 _ ?side1 ?side2 A3.out).mono ?_); (case side1 => exact iw HI0); (case side2 => exact bw HB); rintro e w13 ⟨rfl, hi, hb, hk⟩; refine ⟨_, rfl, ?_⟩; replace BK423 := aM (KeepBut.blk hk (g' := gb423) (o := .cells #[.int .i64 0, .slice none 0 0] 26 (0, 0)) (by refine blk_far ?_ NB423_430.out _; refine blk_far ?_ NB423_430.out _; exact aB BK423) NB423_0.out (by simp)); replace HO427 := aM (Kd.S_mono (Kd.S_keep (IsS67.apartS (show IsS67 w0 _ g s0_0 t428 t429 from (iw HI0)) (by (with_reducible repeat (first | apply Kd.S_alloc | apply Kd.S_drewN | apply Kd.S_drew)); exact (Kd.S_mono (Kd.S_far (p := ⟨gb430, 1, none⟩) (Kd.S_far (p := ⟨gb430, 0, none⟩) (Kd.S_types HO427.out BK430.out (by decide)) (fun _ hk => hk.2) (.int .i64 t424)) (fun _ hk => hk.2) (.slice Ao12 t425.length co12)) (fun _ h_ => h_.1))) (by decide)) hk (fun _ h => h.2)) (fun _ h => h.1)); replace BK430 := aM (KeepBut.blk hk (g' := gb430) (o := .cells #[.int .i64 t424, .slice Ao12 t425.length co12] 26 (0, 0)) (by refine blk_put (cs := #[.int .i64 t424, .slice none 0 0]) ?_ 1 _ rfl; refine blk_put (cs := #[.int .i64 0, .slice none 0 0]) ?_ 0 _ rfl; exact aB BK430) NB430_0.out (by simp)); replace HK := aM (KeepBut.trans (kw HK) hk (.inl rfl)); replace HB := aM (hb); replace HI0 := aM (hi); (try clear hb); (try clear hb2); (try clear hk); (try clear hi)) | (refine gl_ (some 11) Try.func27 #[.pointer (some ⟨g, 0, none⟩), .int .i64 33] ?_; (with_reducible refine (spec_l1Below.calls g s0_0 t432 t433 33 t434 t435 t436 w0 _ ?side1 ?side2 A5.out).mono ?_); (case side1 => exact iw HI0); (case side2 => exact bw HB); rintro e w14 ⟨rfl, hi, hb, hk⟩; refine ⟨_, rfl, ?_⟩; replace BK423 := aM (KeepBut.blk hk (g' := gb423) (aB BK423) NB423_0.out (by simp)); replace HO427 := aM (Kd.S_mono (Kd.S_keep (IsS67.apartS (show IsS67 w0 _ g s0_0 t432 t433 from (iw HI0)) (sS HO427.out) (by decide)) hk (fun _ h => h.2)) (fun _ h => h.1)); replace BK430 := aM (KeepBut.blk hk (g' := gb430) (aB BK430) NB430_0.out (by simp)); replace HK := aM (KeepBut.trans (kw HK) hk (.inl rfl)); replace HB := aM (hb); replace HI0 := aM (hi); (try clear hb); (try clear hb2); (try clear hk); (try clear hi); obtain ⟨hcz15_0, hcz15_1⟩ := zc2 BK430; have hfz15_0 := zf BK430; have hnb16 := NB423_0.out; have hnc16 := NB0_423.out; obtain ⟨hcz17_0, hcz17_1⟩ := zc2 BK423; have hfz17_0 := zf BK423))
    refine bodyPost_ret (results_cell_row rfl _ _ gb423 26 #[.int .i64 t434, .slice Ao12 t425.length co12] (0, 0) _ rfl (by refine blk_put (cs := #[.int .i64 t434, .slice none 0 0]) ?_ 1 _ rfl; refine blk_put (cs := #[.int .i64 0, .slice none 0 0]) ?_ 0 _ rfl; refine blk_far ?_ NB423_430.out _; exact aB BK423) Try.underlying26 rfl (by kernel_rfl)) rfl ?_
    exact ⟨_, er, by (with_reducible repeat (first | apply Kd.S_alloc | apply Kd.S_drewN | apply Kd.S_drew)); exact Kd.S_mono (Kd.S_far (p := ⟨gb423, 1, none⟩) (Kd.S_far (p := ⟨gb423, 0, none⟩) (Kd.S_far (p := ⟨gb430, 0, none⟩) (Kd.S_types (Kd.S_types HO427.out BK430.out (by decide)) BK423.out (by decide)) (fun _ hk => hk.1.2) (.int .i64 t434)) (fun _ hk => hk.2) (.int .i64 t434)) (fun _ hk => hk.2) (.slice Ao12 t425.length co12)) (fun _ hk => trivial), (iw HI0), (bw HB), (kw HK)⟩
  · rw [if_neg c4] at H
    have c4b0 : (t431 == 0) = false := beq_eq_false_iff_ne.mpr c4
    have c4b1 : (t431 != 0) = true := bne_iff_ne.mpr c4
    by_cases c18 : t431 = 1
    · rw [if_pos c18] at H
      have c18b0 : (t431 == 1) = true := beq_iff_eq.mpr c18
      have c18b1 : (t431 != 1) = false := bne_eq_false_iff_eq.mpr c18
      clear c18; replace H := bs_ H
      obtain ⟨⟨t437, t440, t441, t442, t443, t444⟩, A190, H⟩ := H
      try dsimp only at H
      have A19 := aM A190
      clear A190
      by_cases c20 : t425.length < 2513169434916
      · rw [if_pos c20] at H
        have LMc20 := aM c20
        clear c20
        obtain ⟨y445, hy445⟩ : ∃ y_ : List (S29), y_ = (t425 ++ [(⟨t437, t440, t441, t442⟩ : S29)]) := ⟨_, rfl⟩
        replace H : (some (t424, y445, t443, t444)) = some (r1, r2, r3, r4) := by first | (rw [hy445]; exact H) | exact H
        have Ny445 := aM hy445
        clear hy445
        simp only [Option.some.injEq, Prod.mk.injEq] at H
        obtain ⟨rfl, rfl, rfl, rfl⟩ := H
        go_enter Try.func24, Try.ntmps24
        try go_wp2_with (first | (refine be_ 2 #[.int .i64 0, .slice none 0 0] 26 ?_; intro gb423 hg w21 hbox hb; replace HB := aM (below_step (bw HB) hb); have BK423 := aM (hbox); have GW423 := gk hg (kw HK); have GE423 := aM ((Nat.le_trans HW0.out (by rw [hg]; exact (keep_size (w := w) (g := g) (row := none) (kw HK)) : w.heap.size ≤ gb423) : w0.heap.size ≤ gb423)); replace HK := aM (KeepBut.trans (kw HK) (KeepBut.of_below hb g none) (.inl rfl)); have NB0_423 := aM ((by rw [hg]; exact Nat.ne_of_lt (IsS67.lt (show IsS67 w0 _ g s0_0 s0_1 s0_2 from (iw HI0))) : g ≠ gb423)); have NB423_0 := aM ((by rw [hg]; exact Nat.ne_of_gt (IsS67.lt (show IsS67 w0 _ g s0_0 s0_1 s0_2 from (iw HI0))) : gb423 ≠ g)); replace HI0 := aM (IsS67.below (iw HI0) hb); clear hb hbox hg) | (refine gl_ (some 5) Try.func48 #[.pointer (some ⟨g, 0, none⟩)] ?_; (with_reducible refine (spec_l6Draw.calls k g s0_0 s0_1 s0_2 t424 t425 t428 t429 w0 _ ?side1 ?side2 A2.out).mono ?_); (case side1 => exact iw HI0); (case side2 => exact bw HB); rintro e w22 ⟨v426, rfl, ho0, hi, hb, hk⟩; refine ⟨_, rfl, ?_⟩; replace BK423 := aM (KeepBut.blk hk (g' := gb423) (aB BK423) NB423_0.out (by simp)); have HO427 := aM (Kd.S_lower ho0 (keep_size (w := w) (g := g) (row := none) (kw HK))); replace HK := aM (KeepBut.trans (kw HK) hk (.inl rfl)); replace HB := aM (hb); replace HI0 := aM (hi); (try clear hb); (try clear hb2); (try clear hk); (try clear hi); (try clear ho0)) | (refine be_ 3 #[.int .i64 0, .slice none 0 0] 26 ?_; intro gb430 hg w23 hbox hb; replace HO427 := aM (Kd.S_below (sS HO427.out) hb); replace HB := aM (below_step (bw HB) hb); have BK430 := aM (hbox); have GW430 := gk hg (kw HK); have GE430 := aM ((Nat.le_trans HW0.out (by rw [hg]; exact (keep_size (w := w) (g := g) (row := none) (kw HK)) : w.heap.size ≤ gb430) : w0.heap.size ≤ gb430)); replace HK := aM (KeepBut.trans (kw HK) (KeepBut.of_below hb g none) (.inl rfl)); have NB423_430 := nb1 hg BK423; have NB430_423 := nb2 hg BK423; replace BK423 := bb BK423 hb; have NB0_430 := aM ((by rw [hg]; exact Nat.ne_of_lt (IsS67.lt (show IsS67 w0 _ g s0_0 t428 t429 from (iw HI0))) : g ≠ gb430)); have NB430_0 := aM ((by rw [hg]; exact Nat.ne_of_gt (IsS67.lt (show IsS67 w0 _ g s0_0 t428 t429 from (iw HI0))) : gb430 ≠ g)); replace HI0 := aM (IsS67.below (iw HI0) hb); clear hb hbox hg; have hnb24 := NB430_423.out; have hnc24 := NB423_430.out; have hnb25 := NB430_0.out; have hnc25 := NB0_430.out; obtain ⟨hcz26_0, hcz26_1⟩ := zc2 BK430; have hfz26_0 := zf BK430; obtain ⟨Ao27, co27, eo27⟩ := Kd.S_slice HO427.out; subst eo27) | (refine gl_ (some 7) Try.func27 #[.pointer (some ⟨g, 0, none⟩), .int .i64 8] ?_; (with_reducible refine (spec_l1Below.calls g s0_0 t428 t429 8 t431 t432 t433 w0 _ ?side1 ?side2 A3.out).mono ?_); (case side1 => exact iw HI0); (case side2 => exact bw HB); rintro e w28 ⟨rfl, hi, hb, hk⟩; refine ⟨_, rfl, ?_⟩; replace BK423 := aM (KeepBut.blk hk (g' := gb423) (o := .cells #[.int .i64 0, .slice none 0 0] 26 (0, 0)) (by refine blk_far ?_ NB423_430.out _; refine blk_far ?_ NB423_430.out _; exact aB BK423) NB423_0.out (by simp)); replace HO427 := aM (Kd.S_mono (Kd.S_keep (IsS67.apartS (show IsS67 w0 _ g s0_0 t428 t429 from (iw HI0)) (by (with_reducible repeat (first | apply Kd.S_alloc | apply Kd.S_drewN | apply Kd.S_drew)); exact (Kd.S_mono (Kd.S_far (p := ⟨gb430, 1, none⟩) (Kd.S_far (p := ⟨gb430, 0, none⟩) (Kd.S_types HO427.out BK430.out (by decide)) (fun _ hk => hk.2) (.int .i64 t424)) (fun _ hk => hk.2) (.slice Ao27 t425.length co27)) (fun _ h_ => h_.1))) (by decide)) hk (fun _ h => h.2)) (fun _ h => h.1)); replace BK430 := aM (KeepBut.blk hk (g' := gb430) (o := .cells #[.int .i64 t424, .slice Ao27 t425.length co27] 26 (0, 0)) (by refine blk_put (cs := #[.int .i64 t424, .slice none 0 0]) ?_ 1 _ rfl; refine blk_put (cs := #[.int .i64 0, .slice none 0 0]) ?_ 0 _ rfl; exact aB BK430) NB430_0.out (by simp)); replace HK := aM (KeepBut.trans (kw HK) hk (.inl rfl)); replace HB := aM (hb); replace HI0 := aM (hi); (try clear hb); (try clear hb2); (try clear hk); (try clear hi)))
        replace HO427 := aM (Kd.S_drew HO427.out)
        replace BK423 := aM (blk_drew BK423.out)
        replace BK430 := aM (blk_drew BK430.out)
        replace HI0 := aM (IsS67.drew HI0.out)
        replace HK := aM (keep_drew HK.out)
        replace HB := aM (below_drew1 HB.out)
        refine start_ (n := 8) (S := fun w' => w'.cell? ⟨gb430, 0, none⟩ = some (.int .i64 t424) ∧ w'.cell? ⟨gb430, 1, none⟩ = some (.slice Ao27 t425.length co27)) (ds := [7]) (bz 8 0) (by kernel_rfl) rfl (by kernel_rfl) ⟨(blk_cell BK430.out 0).trans rfl, (blk_cell BK430.out 1).trans rfl⟩ (fun hHeld => ?_); refine with_tabW spec_l6Any.tab6 spec_l6Any.bits6 (fun HT_ HW_ => ?_)
        generalize w28.drew = w29 at HO427 BK423 BK430 HI0 HK HB hHeld ⊢
        refine pB_ 0 (some 15) 1 ?_ ?_ HT_ ?_ ?_ ?_
        rotate_left
        · intro w'
          go_simp
          with_reducible rfl
        rotate_left
        · simp only [u6_]
          rfl
        refine pB_ 2 (some 17) 5 ?_ ?_ HT_ ?_ ?_ ?_
        rotate_left
        · intro w'
          go_simp
          with_reducible rfl
        rotate_left
        · simp only [u6_]
          rfl
        refine tB_ 1 (some 16) 7 ?_ ?_ HT_ HW_ hHeld ?_ ?_ ?_
        rotate_left
        · rintro w' ⟨s0, s1⟩
          go_simp
          with_reducible rfl
        rotate_left
        · simp only [u6_]
          rfl
        refine one_ (i := 3) (N := some 18) (bz 8 15) rfl rfl (one_of HT_.out (by kernel_rfl)) (by decide) (fun K hK => ?_)
        refine goes_ Try.func49 (by kernel_rfl) rfl #[.pointer (some ⟨g, 0, none⟩)] (by rfl) rfl rfl mp ?_
        with_reducible refine (spec_l4Any.calls k g s0_0 t432 t433 t437 t440 t441 t442 t443 t444 w0 _ ?side1 ?side2 A19.out).mono ?_
        (case side1 => exact iw HI0)
        (case side2 => exact bw HB)
        rintro e w30 ⟨v438, rfl, ho0, hi, hb, hk⟩
        refine ⟨_, rfl, ?_⟩
        replace BK423 := aM (KeepBut.blk hk (g' := gb423) (aB BK423) NB423_0.out (by simp))
        replace HO427 := aM (Kd.S_mono (Kd.S_told (Kd.S_oldK (IsS67.apartS (show IsS67 w0 _ g s0_0 t432 t433 from (iw HI0)) (sS HO427.out) (by decide)) hk) (Kd.R_base ho0)) (fun _ h_ => h_.1))
        replace BK430 := aM (KeepBut.blk hk (g' := gb430) (aB BK430) NB430_0.out (by simp))
        have HO439 := aM (Kd.R_lower ho0 (keep_size (w := w) (g := g) (row := none) (kw HK)))
        replace HK := aM (KeepBut.trans (kw HK) hk (.inl rfl))
        replace HB := aM (hb)
        replace HI0 := aM (hi)
        (try clear hb)
        (try clear hb2)
        (try clear hk)
        (try clear hi)
        (try clear ho0)
        obtain ⟨Ao32, co32, eo32⟩ := Kd.R_slice HO439.out
        (first | subst eo32 | (injection eo32 with f1_ f2_ f3_; have f4_ := f1_.symm; have f5_ := f3_.symm; clear f1_ f2_ f3_; subst f4_; subst f5_))
        refine hK.out _ _ ⟨(blk_cell BK430.out 0).trans rfl, (blk_cell BK430.out 1).trans rfl⟩ (fun hHeld => ?_)
        clear hK K
        refine norm_ (a' := ?_) ?_ ?_
        rotate_left
        · show Act.put _ (some 18) _ = _
          simp only [u6_]
          rfl
        refine one_ (i := 4) (N := some 19) (bz 8 31) rfl rfl (one_of HT_.out (by kernel_rfl)) (by decide) (fun K hK => ?_)
        refine value_ (w1 := ?_) (v := ?_) (by rfl) rfl ?_ ?_
        rotate_left 2
        · go_simp
          constructor
          · rfl
          · rfl
        refine hK.out _ _ ⟨(blk_cell (blk_alloc BK430.out _) 0).trans rfl, (blk_cell (blk_alloc BK430.out _) 1).trans rfl⟩ (fun hHeld => ?_)
        clear hK K
        refine norm_ (a' := ?_) ?_ ?_
        rotate_left
        · show Act.put _ (some 19) _ = _
          simp only [u6_]
          rfl
        refine one_ (i := 5) (N := some 20) (bz 8 63) rfl rfl (one_of HT_.out (by kernel_rfl)) (by decide) (fun K hK => ?_)
        refine Kd.S_append_step k29 w.heap.size (by rfl) (.tmp 16) (.tmp 19) 24 29 (.agg #[(.slice none 0 0), (.int .i64 0), (.int .i64 0), (.string ⟨#[]⟩)]) 56 rfl Try.underlying24 info29 rfl (by decide) (by omega) (.slice Ao27 t425.length co27) t425 (⟨t437, t440, t441, t442⟩ : S29) [.slice Ao32 t437.length co32, .int .i64 t440, .int .i64 t441, .string t442] (fun _ => True) (fun k_ => some k_ = (.slice Ao32 t437.length co32 : Value).ownBlock) rfl rfl ?aP (fun k_ hk_ => ((Kd.R_mono (ok' := fun k_ => ((fun _ => True)) k_ ∧ some k_ ≠ (.slice Ao27 t425.length co27 : Value).ownBlock) (Kd.R_apart' (HO439.out) (Kd.S_typed HO427.out) (by decide)) (fun k_ hk => ⟨trivial, hk.2⟩))).1 k_ hk_.symm) ?aF ?aO (Below.refl _ _) ?aS ?aL ?_
        (case aP => exact k29_mkM _ _ _ (⟨t437, t440, t441, t442⟩ : S29) (Kd.R_mono (Kd.R_tight rfl (Kd.R_mono (ok' := fun k_ => ((fun _ => True)) k_ ∧ some k_ ≠ (.slice Ao27 t425.length co27 : Value).ownBlock) (Kd.R_apart' (HO439.out) (Kd.S_typed HO427.out) (by decide)) (fun k_ hk => ⟨trivial, hk.2⟩))) (fun _ h_ => h_)))
        (case aF => exact (fun _ _ => trivial))
        (case aO => exact (by (with_reducible repeat (first | apply Kd.S_alloc | apply Kd.S_drewN | apply Kd.S_drew)); exact Kd.S_mono HO427.out (fun k_ hk => ⟨trivial, fun e_ => hk.2 e_⟩)))
        (case aS => exact (keep_size (w := w) (g := g) (row := none) (kw HK)))
        (case aL => have := LMc20.out; omega)
        intro v446 w31 ho hb hg hat
        rw [← Ny445.out] at ho
        replace BK423 := aM (blk_grown (g := gb423) (aB BK423) hg (Kd.S_ne HO427.out BK423.out (by decide)))
        replace BK430 := aM (blk_grown (g := gb430) (aB BK430) hg (Kd.S_ne HO427.out BK430.out (by decide)))
        replace HB := aM (below_weaken (bw HB) HL.out hb)
        replace HI0 := aM (IsS67.grown (iw HI0) hg (IsS67.own_neS HI0.out HO427.out (by decide)))
        replace HK := aM (KeepBut.trans (kw HK) (KeepBut.of_grown hg g) (Kd.S_base2 HO427.out))
        have HO447 := aM (ho)
        clear HO427 HO439 ho hb hg hat
        obtain ⟨Ao33, co33, eo33⟩ := Kd.S_slice HO447.out
        (first | subst eo33 | (injection eo33 with f1_ f2_ f3_; have f4_ := f1_.symm; have f5_ := f3_.symm; clear f1_ f2_ f3_; subst f4_; subst f5_))
        refine hK.out _ _ ⟨(blk_cell BK430.out 0).trans rfl, (blk_cell BK430.out 1).trans rfl⟩ (fun hHeld => ?_)
        clear hK K
        refine norm_ (a' := ?_) ?_ ?_
        rotate_left
        · show Act.put _ (some 20) _ = _
          simp only [u6_]
          rfl
        refine pB_ 6 (some 21) 127 ?_ ?_ HT_ ?_ ?_ ?_
        rotate_left
        · intro w'
          go_simp
          with_reducible rfl
        rotate_left
        · simp only [u6_]
          rfl
        refine last_ (i := 7) (N := none) (bz 8 255) rfl rfl (one_of HT_.out (by kernel_rfl)) (by decide) (fun K hK => ?_)
        have hs34 : w31.cell? ⟨gb430, 1, none⟩ = some (.slice Ao27 t425.length co27) := (blk_cell BK430.out 1).trans rfl
        have hfs34 := blk_frozen BK430.out 1
        have hns34_0 := NB423_430.out
        have hms34_0 := NB430_423.out
        refine skip_ (w1 := ?_) (by rfl) rfl ?_ ?_
        rotate_left
        · go_simp
          rfl
        refine hK.out _ _ ?_
        clear hK K
        refine done_ (done_of HT_.out (by kernel_rfl)) ?_
        obtain ⟨hcz35_0, hcz35_1⟩ := zc2 BK430; have hfz35_0 := zf BK430; have hnb36 := NB423_0.out; have hnc36 := NB0_423.out; obtain ⟨hcz37_0, hcz37_1⟩ := zc2 BK423; have hfz37_0 := zf BK423
        try go_wp2
        refine bodyPost_ret (results_cell_row rfl _ _ gb423 26 #[.int .i64 t424, .slice Ao33 y445.length co33] (0, 0) _ rfl (by refine blk_put (cs := #[.int .i64 t424, .slice none 0 0]) ?_ 1 _ rfl; refine blk_put (cs := #[.int .i64 0, .slice none 0 0]) ?_ 0 _ rfl; refine blk_far ?_ NB423_430.out _; exact aB BK423) Try.underlying26 rfl (by kernel_rfl)) rfl ?_
        exact ⟨_, er, by (with_reducible repeat (first | apply Kd.S_alloc | apply Kd.S_drewN | apply Kd.S_drew)); exact Kd.S_mono (Kd.S_far (p := ⟨gb423, 1, none⟩) (Kd.S_far (p := ⟨gb423, 0, none⟩) (Kd.S_far (p := ⟨gb430, 1, none⟩) (Kd.S_types (Kd.S_types HO447.out BK430.out (by decide)) BK423.out (by decide)) (fun _ hk => hk.1.2) (.slice Ao33 y445.length co33)) (fun _ hk => hk.2) (.int .i64 t424)) (fun _ hk => hk.2) (.slice Ao33 y445.length co33)) (fun _ hk => trivial), (iw HI0), (bw HB), (kw HK)⟩
      · rw [if_neg c20] at H
        exact absurd H (by simp)
    · rw [if_neg c18] at H
      have c18b0 : (t431 == 1) = false := beq_eq_false_iff_ne.mpr c18
      have c18b1 : (t431 != 1) = true := bne_iff_ne.mpr c18
      by_cases c38 : t431 = 2
      · rw [if_pos c38] at H
        have c38b0 : (t431 == 2) = true := beq_iff_eq.mpr c38
        have c38b1 : (t431 != 2) = false := bne_eq_false_iff_eq.mpr c38
        clear c38
        by_cases c39 : 0 < (t425.length : Int)
        · rw [if_pos c39] at H
          have c39b0 : decide (0 < (t425.length : Int)) = true := decide_eq_true c39
          have c39b1 : decide (0 < t425.length) = true := decide_eq_true (by omega)
          clear c39; replace H := bs_ H
          obtain ⟨⟨t449, t452, t453, t454⟩, A400, H⟩ := H
          try dsimp only at H
          have A40 := aM A400
          clear A400
          by_cases c41 : t425.length < 2513169434916
          · rw [if_pos c41] at H
            have LMc41 := aM c41
            clear c41
            obtain ⟨y455, hy455⟩ : ∃ y_ : List (S29), y_ = (t425 ++ [(⟨t449, t452, t453, t454⟩ : S29)]) := ⟨_, rfl⟩
            replace H : (some (t424, y455, t432, t433)) = some (r1, r2, r3, r4) := by first | (rw [hy455]; exact H) | exact H
            have Ny455 := aM hy455
            clear hy455
            simp only [Option.some.injEq, Prod.mk.injEq] at H
            obtain ⟨rfl, rfl, rfl, rfl⟩ := H
            go_enter Try.func24, Try.ntmps24
            try go_wp2_with (first | (refine be_ 2 #[.int .i64 0, .slice none 0 0] 26 ?_; intro gb423 hg w42 hbox hb; replace HB := aM (below_step (bw HB) hb); have BK423 := aM (hbox); have GW423 := gk hg (kw HK); have GE423 := aM ((Nat.le_trans HW0.out (by rw [hg]; exact (keep_size (w := w) (g := g) (row := none) (kw HK)) : w.heap.size ≤ gb423) : w0.heap.size ≤ gb423)); replace HK := aM (KeepBut.trans (kw HK) (KeepBut.of_below hb g none) (.inl rfl)); have NB0_423 := aM ((by rw [hg]; exact Nat.ne_of_lt (IsS67.lt (show IsS67 w0 _ g s0_0 s0_1 s0_2 from (iw HI0))) : g ≠ gb423)); have NB423_0 := aM ((by rw [hg]; exact Nat.ne_of_gt (IsS67.lt (show IsS67 w0 _ g s0_0 s0_1 s0_2 from (iw HI0))) : gb423 ≠ g)); replace HI0 := aM (IsS67.below (iw HI0) hb); clear hb hbox hg) | (refine gl_ (some 5) Try.func48 #[.pointer (some ⟨g, 0, none⟩)] ?_; (with_reducible refine (spec_l6Draw.calls k g s0_0 s0_1 s0_2 t424 t425 t428 t429 w0 _ ?side1 ?side2 A2.out).mono ?_); (case side1 => exact iw HI0); (case side2 => exact bw HB); rintro e w43 ⟨v426, rfl, ho0, hi, hb, hk⟩; refine ⟨_, rfl, ?_⟩; replace BK423 := aM (KeepBut.blk hk (g' := gb423) (aB BK423) NB423_0.out (by simp)); have HO427 := aM (Kd.S_lower ho0 (keep_size (w := w) (g := g) (row := none) (kw HK))); replace HK := aM (KeepBut.trans (kw HK) hk (.inl rfl)); replace HB := aM (hb); replace HI0 := aM (hi); (try clear hb); (try clear hb2); (try clear hk); (try clear hi); (try clear ho0)) | (refine be_ 3 #[.int .i64 0, .slice none 0 0] 26 ?_; intro gb430 hg w44 hbox hb; replace HO427 := aM (Kd.S_below (sS HO427.out) hb); replace HB := aM (below_step (bw HB) hb); have BK430 := aM (hbox); have GW430 := gk hg (kw HK); have GE430 := aM ((Nat.le_trans HW0.out (by rw [hg]; exact (keep_size (w := w) (g := g) (row := none) (kw HK)) : w.heap.size ≤ gb430) : w0.heap.size ≤ gb430)); replace HK := aM (KeepBut.trans (kw HK) (KeepBut.of_below hb g none) (.inl rfl)); have NB423_430 := nb1 hg BK423; have NB430_423 := nb2 hg BK423; replace BK423 := bb BK423 hb; have NB0_430 := aM ((by rw [hg]; exact Nat.ne_of_lt (IsS67.lt (show IsS67 w0 _ g s0_0 t428 t429 from (iw HI0))) : g ≠ gb430)); have NB430_0 := aM ((by rw [hg]; exact Nat.ne_of_gt (IsS67.lt (show IsS67 w0 _ g s0_0 t428 t429 from (iw HI0))) : gb430 ≠ g)); replace HI0 := aM (IsS67.below (iw HI0) hb); clear hb hbox hg; have hnb45 := NB430_423.out; have hnc45 := NB423_430.out; have hnb46 := NB430_0.out; have hnc46 := NB0_430.out; obtain ⟨hcz47_0, hcz47_1⟩ := zc2 BK430; have hfz47_0 := zf BK430; obtain ⟨Ao48, co48, eo48⟩ := Kd.S_slice HO427.out; subst eo48) | (refine gl_ (some 7) Try.func27 #[.pointer (some ⟨g, 0, none⟩), .int .i64 8] ?_; (with_reducible refine (spec_l1Below.calls g s0_0 t428 t429 8 t431 t432 t433 w0 _ ?side1 ?side2 A3.out).mono ?_); (case side1 => exact iw HI0); (case side2 => exact bw HB); rintro e w49 ⟨rfl, hi, hb, hk⟩; refine ⟨_, rfl, ?_⟩; replace BK423 := aM (KeepBut.blk hk (g' := gb423) (o := .cells #[.int .i64 0, .slice none 0 0] 26 (0, 0)) (by refine blk_far ?_ NB423_430.out _; refine blk_far ?_ NB423_430.out _; exact aB BK423) NB423_0.out (by simp)); replace HO427 := aM (Kd.S_mono (Kd.S_keep (IsS67.apartS (show IsS67 w0 _ g s0_0 t428 t429 from (iw HI0)) (by (with_reducible repeat (first | apply Kd.S_alloc | apply Kd.S_drewN | apply Kd.S_drew)); exact (Kd.S_mono (Kd.S_far (p := ⟨gb430, 1, none⟩) (Kd.S_far (p := ⟨gb430, 0, none⟩) (Kd.S_types HO427.out BK430.out (by decide)) (fun _ hk => hk.2) (.int .i64 t424)) (fun _ hk => hk.2) (.slice Ao48 t425.length co48)) (fun _ h_ => h_.1))) (by decide)) hk (fun _ h => h.2)) (fun _ h => h.1)); replace BK430 := aM (KeepBut.blk hk (g' := gb430) (o := .cells #[.int .i64 t424, .slice Ao48 t425.length co48] 26 (0, 0)) (by refine blk_put (cs := #[.int .i64 t424, .slice none 0 0]) ?_ 1 _ rfl; refine blk_put (cs := #[.int .i64 0, .slice none 0 0]) ?_ 0 _ rfl; exact aB BK430) NB430_0.out (by simp)); replace HK := aM (KeepBut.trans (kw HK) hk (.inl rfl)); replace HB := aM (hb); replace HI0 := aM (hi); (try clear hb); (try clear hb2); (try clear hk); (try clear hi)))
            replace HO427 := aM (Kd.S_drew HO427.out)
            replace BK423 := aM (blk_drew BK423.out)
            replace BK430 := aM (blk_drew BK430.out)
            replace HI0 := aM (IsS67.drew HI0.out)
            replace HK := aM (keep_drew HK.out)
            replace HB := aM (below_drew1 HB.out)
            have p448 : 0 ≤ (0 : Int) := (by omega)
            have q448 : 0 < (t425.length : Int) := of_decide_eq_true as_
            obtain ⟨ad448, A448_0, c448_0, e448, hx448_0, hx448_1, hx448_2, hx448_3, hl448_0, hi448_0⟩ := at_T29 (Kd.S_reads' HO427.out).2.2 0 p448 q448
            cases e448
            obtain ⟨ce448, hce448, hMe448, hcc448⟩ := Kd.S_get HO427.out z29 0 p448 (by first | exact q448 | exact of_decide_eq_true as_ | (have e_ := (Kd.S_reads' HO427.out).1; omega))
            obtain ⟨ve448_0, rfl, ge448_0⟩ := k29_openM hMe448
            have hv448_0 := hcc448 0 _ rfl
            rw [Nat.add_zero] at hv448_0
            replace hv448_0 := Option.some.inj (hv448_0.symm.trans hx448_0)
            rw [hv448_0] at ge448_0
            have HL448_0 := aM (show Kd.R k76 76 _ _ _ _ ((rd_T29 t425 0).f0) from ge448_0)
            clear hv448_0 ge448_0 hcc448 hce448
            have qi448 : (0 < t425.length) = True := eq_true (by omega)
            (try rw [show ((0 : Int)).toNat = 0 from rfl] at hx448_0)
            (try rw [show 0 * 4 = 0 from rfl] at hx448_0)
            (try rw [Addr.add_zero'] at hx448_0)
            (try rw [show ((0 : Int)).toNat = 0 from rfl] at hx448_1)
            (try rw [show 0 * 4 = 0 from rfl] at hx448_1)
            (try rw [Addr.add_zero'] at hx448_1)
            (try rw [show ((0 : Int)).toNat = 0 from rfl] at hx448_2)
            (try rw [show 0 * 4 = 0 from rfl] at hx448_2)
            (try rw [Addr.add_zero'] at hx448_2)
            (try rw [show ((0 : Int)).toNat = 0 from rfl] at hx448_3)
            (try rw [show 0 * 4 = 0 from rfl] at hx448_3)
            (try rw [Addr.add_zero'] at hx448_3)
            have HR448_0 := aM hi448_0
            have HC448_0 := aM hl448_0
            clear hi448_0 hl448_0
            replace p448 := eq_true p448
            replace q448 := eq_true q448
            refine start_ (n := 11) (S := fun w' => w'.cell? ⟨gb430, 0, none⟩ = some (.int .i64 t424) ∧ w'.cell? ⟨gb430, 1, none⟩ = some (.slice (some ad448) t425.length co48) ∧ w'.cell? ad448 = some (.slice A448_0 ((rd_T29 t425 0).f0).length c448_0) ∧ w'.cell? ⟨ad448.block, ad448.off + 1, none⟩ = some (.int .i64 ((rd_T29 t425 0).f1)) ∧ w'.cell? ⟨ad448.block, ad448.off + 2, none⟩ = some (.int .i64 ((rd_T29 t425 0).f2)) ∧ w'.cell? ⟨ad448.block, ad448.off + 3, none⟩ = some (.string ((rd_T29 t425 0).f3))) (ds := [8, 10]) (bz 11 0) (by kernel_rfl) rfl (by kernel_rfl) ⟨(blk_cell BK430.out 0).trans rfl, (blk_cell BK430.out 1).trans rfl, hx448_0, hx448_1, hx448_2, hx448_3⟩ (fun hHeld => ?_); refine with_tabW spec_l6Any.tab8 spec_l6Any.bits8 (fun HT_ HW_ => ?_)
            generalize w49.drew = w50 at HO427 BK423 BK430 HI0 HK HB HL448_0 HR448_0 hx448_0 hx448_1 hx448_2 hx448_3 hHeld ⊢
            refine pB_ 0 (some 24) 1 ?_ ?_ HT_ ?_ ?_ ?_
            rotate_left
            · intro w'
              go_simp
              with_reducible rfl
            rotate_left
            · simp only [u6_]
              rfl
            refine pB_ 2 (some 26) 5 ?_ ?_ HT_ ?_ ?_ ?_
            rotate_left
            · intro w'
              go_simp
              with_reducible rfl
            rotate_left
            · simp only [u6_]
              rfl
            refine tB_ 1 (some 25) 7 ?_ ?_ HT_ HW_ hHeld ?_ ?_ ?_
            rotate_left
            · rintro w' ⟨s0, s1, s2, s3, s4, s5⟩
              go_simp
              with_reducible rfl
            rotate_left
            · simp only [u6_]
              rfl
            refine tB_ 3 (some 27) 15 ?_ ?_ HT_ HW_ hHeld ?_ ?_ ?_
            rotate_left
            · rintro w' ⟨s0, s1, s2, s3, s4, s5⟩
              go_simp
              with_reducible rfl
            rotate_left
            · simp only [u6_]
              rfl
            refine pB_ 4 (some 28) 31 ?_ ?_ HT_ ?_ ?_ ?_
            rotate_left
            · intro w'
              go_simp
              with_reducible rfl
            rotate_left
            · simp only [u6_]
              rfl
            refine tB_ 5 (some 29) 63 ?_ ?_ HT_ HW_ hHeld ?_ ?_ ?_
            rotate_left
            · rintro w' ⟨s0, s1, s2, s3, s4, s5⟩
              go_simp
              with_reducible rfl
            rotate_left
            · simp only [u6_]
              rfl
            refine one_ (i := 6) (N := some 30) (bz 11 127) rfl rfl (one_of HT_.out (by kernel_rfl)) (by decide) (fun K hK => ?_)
            refine goes_ Try.func31 (by kernel_rfl) rfl #[.agg #[.slice A448_0 ((rd_T29 t425 0).f0).length c448_0, .int .i64 ((rd_T29 t425 0).f1), .int .i64 ((rd_T29 t425 0).f2), .string ((rd_T29 t425 0).f3)]] (by rfl) rfl rfl mp ?_
            with_reducible refine (spec_l4Copy.calls _ _ ((rd_T29 t425 0).f0) ((rd_T29 t425 0).f1) ((rd_T29 t425 0).f2) ((rd_T29 t425 0).f3) t449 t452 t453 t454 _ ?side1 ?side2 A40.out).mono ?_
            (case side1 => repeat (first | exact (by repeat (first | (with_reducible exact HR448_0.out) | (with_reducible refine Kd.C_alloc ?_ _) | (with_reducible refine Kd.C_drewN ?_ _) | (with_reducible refine Kd.C_drew ?_) | exact HR448_0.out)) | (with_reducible refine Kd.C_alloc ?_ _) | (with_reducible refine Kd.C_drewN ?_ _) | (with_reducible refine Kd.C_drew ?_)))
            (case side2 => exact HC448_0.out)
            rintro e w51 ⟨v450, rfl, ho0, hb⟩
            have HS2_ := (hb.cell (World.block_lt_of_cell? _ _ (hHeld.2.2.1))).trans (hHeld.2.2.1)
            have HS3_ := (hb.cell (World.block_lt_of_cell? _ _ (hHeld.2.2.2.1))).trans (hHeld.2.2.2.1)
            have HS4_ := (hb.cell (World.block_lt_of_cell? _ _ (hHeld.2.2.2.2.1))).trans (hHeld.2.2.2.2.1)
            have HS5_ := (hb.cell (World.block_lt_of_cell? _ _ (hHeld.2.2.2.2.2))).trans (hHeld.2.2.2.2.2)
            refine ⟨_, rfl, ?_⟩
            replace HO427 := aM (Kd.S_elder' (sS HO427.out) (Kd.R_base ho0) hb)
            have HO451 := aM (Kd.R_lower (Kd.R_new' ho0 (Kd.R_lt (aR HL448_0))) (keep_size (w := w) (g := g) (row := none) (kw HK)))
            replace HL448_0 := aM (Kd.R_elder' (aR HL448_0) (Kd.R_base ho0) hb)
            replace BK423 := bb BK423 hb
            replace BK430 := bb BK430 hb
            replace HR448_0 := aM (Kd.C_below (by repeat (first | (with_reducible exact HR448_0.out) | (with_reducible refine Kd.C_alloc ?_ _) | (with_reducible refine Kd.C_drewN ?_ _) | (with_reducible refine Kd.C_drew ?_) | exact HR448_0.out)) hb)
            replace HK := aM (KeepBut.trans (kw HK) (KeepBut.of_below hb g none) (.inl rfl))
            replace HB := aM (below_step (bw HB) hb)
            replace HI0 := aM (IsS67.below (iw HI0) hb)
            (try clear hb)
            (try clear hb2)
            (try clear hk)
            (try clear hi)
            (try clear ho0)
            obtain ⟨Ao53, co53, eo53⟩ := Kd.R_slice HO451.out
            (first | subst eo53 | (injection eo53 with f1_ f2_ f3_; have f4_ := f1_.symm; have f5_ := f3_.symm; clear f1_ f2_ f3_; subst f4_; subst f5_))
            refine hK.out _ _ ⟨(blk_cell BK430.out 0).trans rfl, (blk_cell BK430.out 1).trans rfl, HS2_, HS3_, HS4_, HS5_⟩ (fun hHeld => ?_)
            clear hK K
            refine norm_ (a' := ?_) ?_ ?_
            rotate_left
            · show Act.put _ (some 30) _ = _
              simp only [u6_]
              rfl
            refine one_ (i := 7) (N := some 31) (bz 11 255) rfl rfl (one_of HT_.out (by kernel_rfl)) (by decide) (fun K hK => ?_)
            refine value_ (w1 := ?_) (v := ?_) (by rfl) rfl ?_ ?_
            rotate_left 2
            · go_simp
              constructor
              · rfl
              · rfl
            refine hK.out _ _ ⟨(blk_cell (blk_alloc BK430.out _) 0).trans rfl, (blk_cell (blk_alloc BK430.out _) 1).trans rfl, (World.cell?_alloc_lt _ _ _ (World.block_lt_of_cell? _ _ (hHeld.2.2.1))).trans (hHeld.2.2.1), (World.cell?_alloc_lt _ _ _ (World.block_lt_of_cell? _ _ (hHeld.2.2.2.1))).trans (hHeld.2.2.2.1), (World.cell?_alloc_lt _ _ _ (World.block_lt_of_cell? _ _ (hHeld.2.2.2.2.1))).trans (hHeld.2.2.2.2.1), (World.cell?_alloc_lt _ _ _ (World.block_lt_of_cell? _ _ (hHeld.2.2.2.2.2))).trans (hHeld.2.2.2.2.2)⟩ (fun hHeld => ?_)
            clear hK K
            refine norm_ (a' := ?_) ?_ ?_
            rotate_left
            · show Act.put _ (some 31) _ = _
              simp only [u6_]
              rfl
            refine last_ (i := 8) (N := some 32) (bz 11 511) rfl rfl (one_of HT_.out (by kernel_rfl)) (by decide) (fun K hK => ?_)
            refine Kd.S_append_step k29 w.heap.size (by rfl) (.tmp 25) (.tmp 31) 24 29 (.agg #[(.slice none 0 0), (.int .i64 0), (.int .i64 0), (.string ⟨#[]⟩)]) 56 rfl Try.underlying24 info29 rfl (by decide) (by omega) (.slice (some ad448) t425.length co48) t425 (⟨t449, t452, t453, t454⟩ : S29) [.slice Ao53 t449.length co53, .int .i64 t452, .int .i64 t453, .string t454] (fun _ => True) (fun k_ => some k_ = (.slice Ao53 t449.length co53 : Value).ownBlock) rfl rfl ?aP (fun k_ hk_ => ((Kd.R_mono (ok' := fun k_ => ((fun _ => True)) k_ ∧ some k_ ≠ (.slice (some ad448) t425.length co48 : Value).ownBlock) (Kd.R_apart' (HO451.out) (Kd.S_typed HO427.out) (by decide)) (fun k_ hk => ⟨trivial, hk.2⟩))).1 k_ hk_.symm) ?aF ?aO (Below.refl _ _) ?aS ?aL ?_
            (case aP => exact k29_mkM _ _ _ (⟨t449, t452, t453, t454⟩ : S29) (Kd.R_mono (Kd.R_tight rfl (Kd.R_mono (ok' := fun k_ => ((fun _ => True)) k_ ∧ some k_ ≠ (.slice (some ad448) t425.length co48 : Value).ownBlock) (Kd.R_apart' (HO451.out) (Kd.S_typed HO427.out) (by decide)) (fun k_ hk => ⟨trivial, hk.2⟩))) (fun _ h_ => h_)))
            (case aF => exact (fun _ _ => trivial))
            (case aO => exact (by (with_reducible repeat (first | apply Kd.S_alloc | apply Kd.S_drewN | apply Kd.S_drew)); exact Kd.S_mono HO427.out (fun k_ hk => ⟨trivial, fun e_ => hk.2 e_⟩)))
            (case aS => exact (keep_size (w := w) (g := g) (row := none) (kw HK)))
            (case aL => have := LMc41.out; omega)
            intro v456 w52 ho hb hg hat
            rw [← Ny455.out] at ho
            replace BK423 := aM (blk_grown (g := gb423) (aB BK423) hg (Kd.S_ne HO427.out BK423.out (by decide)))
            replace BK430 := aM (blk_grown (g := gb430) (aB BK430) hg (Kd.S_ne HO427.out BK430.out (by decide)))
            replace HL448_0 := aM (Kd.R_after (ok := (fun k_ => some k_ ≠ (.slice Ao53 t449.length co53 : Value).ownBlock)) (by (with_reducible repeat (first | apply aR1 | apply aR2 | apply aR3)); exact Kd.R_mono HL448_0.out (fun _ hk => ⟨hk.2, hk.1.2⟩)) hg hat)
            replace HB := aM (below_weaken (bw HB) HL.out hb)
            replace HI0 := aM (IsS67.grown (iw HI0) hg (IsS67.own_neS HI0.out HO427.out (by decide)))
            replace HK := aM (KeepBut.trans (kw HK) (KeepBut.of_grown hg g) (Kd.S_base2 HO427.out))
            have HO457 := aM (ho)
            clear HO427 HO451 ho hb hg hat
            obtain ⟨Ao54, co54, eo54⟩ := Kd.S_slice HO457.out
            (first | subst eo54 | (injection eo54 with f1_ f2_ f3_; have f4_ := f1_.symm; have f5_ := f3_.symm; clear f1_ f2_ f3_; subst f4_; subst f5_))
            refine hK.out _ _ ?_
            clear hK K
            refine norm_ (a' := ?_) ?_ ?_
            rotate_left
            · show Act.put _ (some 32) _ = _
              simp only [u6_]
              rfl
            refine pB_ 9 (some 33) 1023 ?_ ?_ HT_ ?_ ?_ ?_
            rotate_left
            · intro w'
              go_simp
              with_reducible rfl
            rotate_left
            · simp only [u6_]
              rfl
            refine last_ (i := 10) (N := none) (bz 11 2047) rfl rfl (one_of HT_.out (by kernel_rfl)) (by decide) (fun K hK => ?_)
            have hs55 : w52.cell? ⟨gb430, 1, none⟩ = some (.slice (some ad448) t425.length co48) := (blk_cell BK430.out 1).trans rfl
            have hfs55 := blk_frozen BK430.out 1
            have hns55_0 := NB423_430.out
            have hms55_0 := NB430_423.out
            refine skip_ (w1 := ?_) (by rfl) rfl ?_ ?_
            rotate_left
            · go_simp
              rfl
            refine hK.out _ _ ?_
            clear hK K
            refine done_ (done_of HT_.out (by kernel_rfl)) ?_
            obtain ⟨hcz56_0, hcz56_1⟩ := zc2 BK430; have hfz56_0 := zf BK430; have hnb57 := NB423_0.out; have hnc57 := NB0_423.out; obtain ⟨hcz58_0, hcz58_1⟩ := zc2 BK423; have hfz58_0 := zf BK423
            try go_wp2
            refine bodyPost_ret (results_cell_row rfl _ _ gb423 26 #[.int .i64 t424, .slice Ao54 y455.length co54] (0, 0) _ rfl (by refine blk_put (cs := #[.int .i64 t424, .slice none 0 0]) ?_ 1 _ rfl; refine blk_put (cs := #[.int .i64 0, .slice none 0 0]) ?_ 0 _ rfl; refine blk_far ?_ NB423_430.out _; exact aB BK423) Try.underlying26 rfl (by kernel_rfl)) rfl ?_
            exact ⟨_, er, by (with_reducible repeat (first | apply Kd.S_alloc | apply Kd.S_drewN | apply Kd.S_drew)); exact Kd.S_mono (Kd.S_far (p := ⟨gb423, 1, none⟩) (Kd.S_far (p := ⟨gb423, 0, none⟩) (Kd.S_far (p := ⟨gb430, 1, none⟩) (Kd.S_types (Kd.S_types HO457.out BK430.out (by decide)) BK423.out (by decide)) (fun _ hk => hk.1.2) (.slice Ao54 y455.length co54)) (fun _ hk => hk.2) (.int .i64 t424)) (fun _ hk => hk.2) (.slice Ao54 y455.length co54)) (fun _ hk => trivial), (iw HI0), (bw HB), (kw HK)⟩
          · rw [if_neg c41] at H
            exact absurd H (by simp)
        · rw [if_neg c39] at H
          exact absurd H (by simp)
      · rw [if_neg c38] at H
        have c38b0 : (t431 == 2) = false := beq_eq_false_iff_ne.mpr c38
        have c38b1 : (t431 != 2) = true := bne_iff_ne.mpr c38
        by_cases c59 : t431 = 3
        · rw [if_pos c59] at H
          have c59b0 : (t431 == 3) = true := beq_iff_eq.mpr c59
          have c59b1 : (t431 != 3) = false := bne_eq_false_iff_eq.mpr c59
          clear c59
          obtain ⟨y458, hy458⟩ : ∃ y_ : List (S29), y_ = (([] : List (S29))) := ⟨_, rfl⟩
          replace H : (some (t424, y458, t432, t433)) = some (r1, r2, r3, r4) := by first | (rw [hy458]; exact H) | exact H
          have Ny458 := aM hy458
          clear hy458
          simp only [Option.some.injEq, Prod.mk.injEq] at H
          obtain ⟨rfl, rfl, rfl, rfl⟩ := H
          go_enter Try.func24, Try.ntmps24
          go_wp2_with (first | (refine be_ 2 #[.int .i64 0, .slice none 0 0] 26 ?_; intro gb423 hg w60 hbox hb; replace HB := aM (below_step (bw HB) hb); have BK423 := aM (hbox); have GW423 := gk hg (kw HK); have GE423 := aM ((Nat.le_trans HW0.out (by rw [hg]; exact (keep_size (w := w) (g := g) (row := none) (kw HK)) : w.heap.size ≤ gb423) : w0.heap.size ≤ gb423)); replace HK := aM (KeepBut.trans (kw HK) (KeepBut.of_below hb g none) (.inl rfl)); have NB0_423 := aM ((by rw [hg]; exact Nat.ne_of_lt (IsS67.lt (show IsS67 w0 _ g s0_0 s0_1 s0_2 from (iw HI0))) : g ≠ gb423)); have NB423_0 := aM ((by rw [hg]; exact Nat.ne_of_gt (IsS67.lt (show IsS67 w0 _ g s0_0 s0_1 s0_2 from (iw HI0))) : gb423 ≠ g)); replace HI0 := aM (IsS67.below (iw HI0) hb); clear hb hbox hg) | (refine gl_ (some 5) Try.func48 #[.pointer (some ⟨g, 0, none⟩)] ?_; (with_reducible refine (spec_l6Draw.calls k g s0_0 s0_1 s0_2 t424 t425 t428 t429 w0 _ ?side1 ?side2 A2.out).mono ?_); (case side1 => exact iw HI0); (case side2 => exact bw HB); rintro e w61 ⟨v426, rfl, ho0, hi, hb, hk⟩; refine ⟨_, rfl, ?_⟩; replace BK423 := aM (KeepBut.blk hk (g' := gb423) (aB BK423) NB423_0.out (by simp)); have HO427 := aM (Kd.S_lower ho0 (keep_size (w := w) (g := g) (row := none) (kw HK))); replace HK := aM (KeepBut.trans (kw HK) hk (.inl rfl)); replace HB := aM (hb); replace HI0 := aM (hi); (try clear hb); (try clear hb2); (try clear hk); (try clear hi); (try clear ho0)) | (refine be_ 3 #[.int .i64 0, .slice none 0 0] 26 ?_; intro gb430 hg w62 hbox hb; replace HO427 := aM (Kd.S_below (sS HO427.out) hb); replace HB := aM (below_step (bw HB) hb); have BK430 := aM (hbox); have GW430 := gk hg (kw HK); have GE430 := aM ((Nat.le_trans HW0.out (by rw [hg]; exact (keep_size (w := w) (g := g) (row := none) (kw HK)) : w.heap.size ≤ gb430) : w0.heap.size ≤ gb430)); replace HK := aM (KeepBut.trans (kw HK) (KeepBut.of_below hb g none) (.inl rfl)); have NB423_430 := nb1 hg BK423; have NB430_423 := nb2 hg BK423; replace BK423 := bb BK423 hb; have NB0_430 := aM ((by rw [hg]; exact Nat.ne_of_lt (IsS67.lt (show IsS67 w0 _ g s0_0 t428 t429 from (iw HI0))) : g ≠ gb430)); have NB430_0 := aM ((by rw [hg]; exact Nat.ne_of_gt (IsS67.lt (show IsS67 w0 _ g s0_0 t428 t429 from (iw HI0))) : gb430 ≠ g)); replace HI0 := aM (IsS67.below (iw HI0) hb); clear hb hbox hg; have hnb63 := NB430_423.out; have hnc63 := NB423_430.out; have hnb64 := NB430_0.out; have hnc64 := NB0_430.out; obtain ⟨hcz65_0, hcz65_1⟩ := zc2 BK430; have hfz65_0 := zf BK430; obtain ⟨Ao66, co66, eo66⟩ := Kd.S_slice HO427.out; subst eo66) | (refine gl_ (some 7) Try.func27 #[.pointer (some ⟨g, 0, none⟩), .int .i64 8] ?_; (with_reducible refine (spec_l1Below.calls g s0_0 t428 t429 8 t431 t432 t433 w0 _ ?side1 ?side2 A3.out).mono ?_); (case side1 => exact iw HI0); (case side2 => exact bw HB); rintro e w67 ⟨rfl, hi, hb, hk⟩; refine ⟨_, rfl, ?_⟩; replace BK423 := aM (KeepBut.blk hk (g' := gb423) (o := .cells #[.int .i64 0, .slice none 0 0] 26 (0, 0)) (by refine blk_far ?_ NB423_430.out _; refine blk_far ?_ NB423_430.out _; exact aB BK423) NB423_0.out (by simp)); replace HO427 := aM (Kd.S_mono (Kd.S_keep (IsS67.apartS (show IsS67 w0 _ g s0_0 t428 t429 from (iw HI0)) (by (with_reducible repeat (first | apply Kd.S_alloc | apply Kd.S_drewN | apply Kd.S_drew)); exact (Kd.S_mono (Kd.S_far (p := ⟨gb430, 1, none⟩) (Kd.S_far (p := ⟨gb430, 0, none⟩) (Kd.S_types HO427.out BK430.out (by decide)) (fun _ hk => hk.2) (.int .i64 t424)) (fun _ hk => hk.2) (.slice Ao66 t425.length co66)) (fun _ h_ => h_.1))) (by decide)) hk (fun _ h => h.2)) (fun _ h => h.1)); replace BK430 := aM (KeepBut.blk hk (g' := gb430) (o := .cells #[.int .i64 t424, .slice Ao66 t425.length co66] 26 (0, 0)) (by refine blk_put (cs := #[.int .i64 t424, .slice none 0 0]) ?_ 1 _ rfl; refine blk_put (cs := #[.int .i64 0, .slice none 0 0]) ?_ 0 _ rfl; exact aB BK430) NB430_0.out (by simp)); replace HK := aM (KeepBut.trans (kw HK) hk (.inl rfl)); replace HB := aM (hb); replace HI0 := aM (hi); (try clear hb); (try clear hb2); (try clear hk); (try clear hi)) | ((with_reducible refine gate_dst (N := 36) rfl ?_); refine Kd.S_lit k29 _ 29 rfl (N := 36) rfl (xs := ([] : List (S29))) (inner := []) (ok := fun _ => True) (okp := fun _ => True) gs ?hp (fun _ hk => hk) trivial (Below.refl _ _) (Nat.le_refl _) (by simp) ?_; (case hp => exact (Reps.none _ _)); intro v459 w68 ho69 hb hg_ hnew_; clear hg_ hnew_; (first | rw [← Ny458.out] at ho69 | (simp only [Int.reduceToNat] at ho69; rw [← Ny458.out] at ho69)); have HO460 := aM (Kd.S_lower (Kd.S_new' ho69 (Kd.S_lt (sS HO427.out))) (keep_size (w := w) (g := g) (row := none) (kw HK))); replace HO427 := aM (Kd.S_elder' (sS HO427.out) (Kd.S_base ho69) hb); replace BK423 := bb BK423 hb; replace BK430 := bb BK430 hb; replace HK := aM (KeepBut.trans (kw HK) (KeepBut.of_below hb g none) (.inl rfl)); replace HB := aM (below_step (bw HB) hb); replace HI0 := aM (IsS67.below (iw HI0) hb); clear hb ho69; obtain ⟨Ao70, co70, eo70⟩ := Kd.S_slice HO460.out; subst eo70; obtain ⟨hcz71_0, hcz71_1⟩ := zc2 BK430; have hfz71_0 := zf BK430; have hnb72 := NB423_0.out; have hnc72 := NB0_423.out; obtain ⟨hcz73_0, hcz73_1⟩ := zc2 BK423; have hfz73_0 := zf BK423))
          refine bodyPost_ret (results_cell_row rfl _ _ gb423 26 #[.int .i64 t424, .slice Ao70 y458.length co70] (0, 0) _ rfl (by refine blk_put (cs := #[.int .i64 t424, .slice none 0 0]) ?_ 1 _ rfl; refine blk_put (cs := #[.int .i64 0, .slice none 0 0]) ?_ 0 _ rfl; refine blk_far ?_ NB423_430.out _; exact aB BK423) Try.underlying26 rfl (by kernel_rfl)) rfl ?_
          exact ⟨_, er, by (with_reducible repeat (first | apply Kd.S_alloc | apply Kd.S_drewN | apply Kd.S_drew)); exact Kd.S_mono (Kd.S_far (p := ⟨gb423, 1, none⟩) (Kd.S_far (p := ⟨gb423, 0, none⟩) (Kd.S_far (p := ⟨gb430, 1, none⟩) (Kd.S_types (Kd.S_types HO460.out BK430.out (by decide)) BK423.out (by decide)) (fun _ hk => hk.1.2) (.slice Ao70 y458.length co70)) (fun _ hk => hk.2) (.int .i64 t424)) (fun _ hk => hk.2) (.slice Ao70 y458.length co70)) (fun _ hk => trivial), (iw HI0), (bw HB), (kw HK)⟩
        · rw [if_neg c59] at H
          have c59b0 : (t431 == 3) = false := beq_eq_false_iff_ne.mpr c59
          have c59b1 : (t431 != 3) = true := bne_iff_ne.mpr c59
          simp only [Option.some.injEq, Prod.mk.injEq] at H
          obtain ⟨rfl, rfl, rfl, rfl⟩ := H
          go_enter Try.func24, Try.ntmps24
          go_wp2_with (first | (refine be_ 2 #[.int .i64 0, .slice none 0 0] 26 ?_; intro gb423 hg w74 hbox hb; replace HB := aM (below_step (bw HB) hb); have BK423 := aM (hbox); have GW423 := gk hg (kw HK); have GE423 := aM ((Nat.le_trans HW0.out (by rw [hg]; exact (keep_size (w := w) (g := g) (row := none) (kw HK)) : w.heap.size ≤ gb423) : w0.heap.size ≤ gb423)); replace HK := aM (KeepBut.trans (kw HK) (KeepBut.of_below hb g none) (.inl rfl)); have NB0_423 := aM ((by rw [hg]; exact Nat.ne_of_lt (IsS67.lt (show IsS67 w0 _ g s0_0 s0_1 s0_2 from (iw HI0))) : g ≠ gb423)); have NB423_0 := aM ((by rw [hg]; exact Nat.ne_of_gt (IsS67.lt (show IsS67 w0 _ g s0_0 s0_1 s0_2 from (iw HI0))) : gb423 ≠ g)); replace HI0 := aM (IsS67.below (iw HI0) hb); clear hb hbox hg) | (refine gl_ (some 5) Try.func48 #[.pointer (some ⟨g, 0, none⟩)] ?_; (with_reducible refine (spec_l6Draw.calls k g s0_0 s0_1 s0_2 t424 t425 t428 t429 w0 _ ?side1 ?side2 A2.out).mono ?_); (case side1 => exact iw HI0); (case side2 => exact bw HB); rintro e w75 ⟨v426, rfl, ho0, hi, hb, hk⟩; refine ⟨_, rfl, ?_⟩; replace BK423 := aM (KeepBut.blk hk (g' := gb423) (aB BK423) NB423_0.out (by simp)); have HO427 := aM (Kd.S_lower ho0 (keep_size (w := w) (g := g) (row := none) (kw HK))); replace HK := aM (KeepBut.trans (kw HK) hk (.inl rfl)); replace HB := aM (hb); replace HI0 := aM (hi); (try clear hb); (try clear hb2); (try clear hk); (try clear hi); (try clear ho0)) | (refine be_ 3 #[.int .i64 0, .slice none 0 0] 26 ?_; intro gb430 hg w76 hbox hb; replace HO427 := aM (Kd.S_below (sS HO427.out) hb); replace HB := aM (below_step (bw HB) hb); have BK430 := aM (hbox); have GW430 := gk hg (kw HK); have GE430 := aM ((Nat.le_trans HW0.out (by rw [hg]; exact (keep_size (w := w) (g := g) (row := none) (kw HK)) : w.heap.size ≤ gb430) : w0.heap.size ≤ gb430)); replace HK := aM (KeepBut.trans (kw HK) (KeepBut.of_below hb g none) (.inl rfl)); have NB423_430 := nb1 hg BK423; have NB430_423 := nb2 hg BK423; replace BK423 := bb BK423 hb; have NB0_430 := aM ((by rw [hg]; exact Nat.ne_of_lt (IsS67.lt (show IsS67 w0 _ g s0_0 t428 t429 from (iw HI0))) : g ≠ gb430)); have NB430_0 := aM ((by rw [hg]; exact Nat.ne_of_gt (IsS67.lt (show IsS67 w0 _ g s0_0 t428 t429 from (iw HI0))) : gb430 ≠ g)); replace HI0 := aM (IsS67.below (iw HI0) hb); clear hb hbox hg; have hnb77 := NB430_423.out; have hnc77 := NB423_430.out; have hnb78 := NB430_0.out; have hnc78 := NB0_430.out; obtain ⟨hcz79_0, hcz79_1⟩ := zc2 BK430; have hfz79_0 := zf BK430; obtain ⟨Ao80, co80, eo80⟩ := Kd.S_slice HO427.out; subst eo80) | (refine gl_ (some 7) Try.func27 #[.pointer (some ⟨g, 0, none⟩), .int .i64 8] ?_; (with_reducible refine (spec_l1Below.calls g s0_0 t428 t429 8 t431 t432 t433 w0 _ ?side1 ?side2 A3.out).mono ?_); (case side1 => exact iw HI0); (case side2 => exact bw HB); rintro e w81 ⟨rfl, hi, hb, hk⟩; refine ⟨_, rfl, ?_⟩; replace BK423 := aM (KeepBut.blk hk (g' := gb423) (o := .cells #[.int .i64 0, .slice none 0 0] 26 (0, 0)) (by refine blk_far ?_ NB423_430.out _; refine blk_far ?_ NB423_430.out _; exact aB BK423) NB423_0.out (by simp)); replace HO427 := aM (Kd.S_mono (Kd.S_keep (IsS67.apartS (show IsS67 w0 _ g s0_0 t428 t429 from (iw HI0)) (by (with_reducible repeat (first | apply Kd.S_alloc | apply Kd.S_drewN | apply Kd.S_drew)); exact (Kd.S_mono (Kd.S_far (p := ⟨gb430, 1, none⟩) (Kd.S_far (p := ⟨gb430, 0, none⟩) (Kd.S_types HO427.out BK430.out (by decide)) (fun _ hk => hk.2) (.int .i64 t424)) (fun _ hk => hk.2) (.slice Ao80 t425.length co80)) (fun _ h_ => h_.1))) (by decide)) hk (fun _ h => h.2)) (fun _ h => h.1)); replace BK430 := aM (KeepBut.blk hk (g' := gb430) (o := .cells #[.int .i64 t424, .slice Ao80 t425.length co80] 26 (0, 0)) (by refine blk_put (cs := #[.int .i64 t424, .slice none 0 0]) ?_ 1 _ rfl; refine blk_put (cs := #[.int .i64 0, .slice none 0 0]) ?_ 0 _ rfl; exact aB BK430) NB430_0.out (by simp)); replace HK := aM (KeepBut.trans (kw HK) hk (.inl rfl)); replace HB := aM (hb); replace HI0 := aM (hi); (try clear hb); (try clear hb2); (try clear hk); (try clear hi); obtain ⟨hcz82_0, hcz82_1⟩ := zc2 BK430; have hfz82_0 := zf BK430; have hnb83 := NB423_0.out; have hnc83 := NB0_423.out; obtain ⟨hcz84_0, hcz84_1⟩ := zc2 BK423; have hfz84_0 := zf BK423))
          refine bodyPost_ret (results_cell_row rfl _ _ gb423 26 #[.int .i64 t424, .slice Ao80 t425.length co80] (0, 0) _ rfl (by refine blk_put (cs := #[.int .i64 t424, .slice none 0 0]) ?_ 1 _ rfl; refine blk_put (cs := #[.int .i64 0, .slice none 0 0]) ?_ 0 _ rfl; exact aB BK423) Try.underlying26 rfl (by kernel_rfl)) rfl ?_
          exact ⟨_, er, by (with_reducible repeat (first | apply Kd.S_alloc | apply Kd.S_drewN | apply Kd.S_drew)); exact Kd.S_mono (Kd.S_far (p := ⟨gb423, 1, none⟩) (Kd.S_far (p := ⟨gb423, 0, none⟩) (Kd.S_types HO427.out BK423.out (by decide)) (fun _ hk => hk.2) (.int .i64 t424)) (fun _ hk => hk.2) (.slice Ao80 t425.length co80)) (fun _ hk => trivial), (iw HI0), (bw HB), (kw HK)⟩

/-! ### impl_SameSet: function 46 -/
def impl_SameSet.l0 : Nat → List (S76) → List (S76) → Int → Int → Option (Bool)
  | 0, _, _, _, _ => none
  | k + 1, x0, x1, x12, x13 => if x13 < x12 then (if 0 ≤ x13 then (if x13 < (x0.length : Int) then (if x13 < (x1.length : Int) then (if (!((((rd_T76 x0 x13).f0).toList) == (((rd_T76 x1 x13).f0).toList)) || (!((((rd_T76 x0 x13).f1).toList) == (((rd_T76 x1 x13).f1).toList)))) = true then (some false) else (impl_SameSet.l0 k x0 x1 x12 (wrap64 (x13 + 1)))) else (none)) else (none)) else (none)) else (some true)
def impl_SameSet.f (k : Nat) (l0 : List (S76)) (l1 : List (S76)) : Option (Bool) := if (l0.length : Int) = (l1.length : Int) then (impl_SameSet.l0 k l0 l1 (l0.length : Int) 0) else (some false)
theorem impl_SameSet.calls (k : Nat) (A0 : Option Addr) (c0 : Nat) (l0 : List (S76)) (A1 : Option Addr) (c1 : Nat) (l1 : List (S76)) (r : Bool) (w : World) (hr0 : Kd.C k76 w A0 l0.length l0) (hc0 : l0.length ≤ c0) (hr1 : Kd.C k76 w A1 l1.length l1) (hc1 : l1.length ≤ c1) (h : impl_SameSet.f k l0 l1 = some r) :
    Calls Try.prog 46 #[.slice A0 l0.length c0, .slice A1 l1.length c1] w fun e w' => e = .returned (.bool r) ∧ Drawn0 w w' := by
  have hu76 := Try.underlying76
  have HR0 := aM hr0
  have HC0 := aM hc0
  clear hr0 hc0
  have HR1 := aM hr1
  have HC1 := aM hc1
  clear hr1 hc1
  have H : (if (l0.length : Int) = (l1.length : Int) then (impl_SameSet.l0 k l0 l1 (l0.length : Int) 0) else (some false)) = some r := h
  clear h
  by_cases c3 : (l0.length : Int) = (l1.length : Int)
  · rw [if_pos c3] at H
    have c3b0 : ((l0.length : Int) == (l1.length : Int)) = true := beq_iff_eq.mpr c3
    have c3b1 : ((l0.length : Int) != (l1.length : Int)) = false := bne_eq_false_iff_eq.mpr c3
    have c3b2 : (l0.length == l1.length) = true := by first | simpa using c3 | (simp at c3 ⊢; omega)
    clear c3
    have H' := aM H
    clear H
    go_enter Try.func46, Try.ntmps46
    go_wp2
    repeat (go_quiet (fail); try go_wp2)
    go_loopg [13] k (fun kq v13 w' => ∃ (x13_1 : Int), v13 = .int .i64 x13_1 ∧ Aside0 (impl_SameSet.l0 kq l0 l1 (l0.length : Int) x13_1 = some r) ∧ Aside0 (kq ≤ k) ∧ Drawn0 w w')
    case atStart => exact ⟨(0), rs_, H', ⟨Nat.le_refl _⟩, by repeat (first | exact Drawn0.refl _ | apply Drawn0.step)⟩
    case round =>
      clear H'
      try clear c1
      try clear p2
      try clear c3
      try clear c3b0
      try clear c3b1
      try clear c3b2
      obtain ⟨x13_1, rfl, HA, HK1, ⟨m1, rfl⟩⟩ := hrel
      cases gk with
      | zero => exact absurd HA.out (by simp [impl_SameSet.l0])
      | succ k1 =>
        have H := HA.out
        clear HA
        simp only [impl_SameSet.l0] at H
        by_cases c4 : x13_1 < (l0.length : Int)
        · rw [if_pos c4] at H
          have c4b0 : decide (x13_1 < (l0.length : Int)) = true := decide_eq_true c4; clear c4
          by_cases c5 : 0 ≤ x13_1
          · rw [if_pos c5] at H
            have c5b0 : decide (0 ≤ x13_1) = true := decide_eq_true c5; clear c5
            by_cases c6 : x13_1 < (l0.length : Int)
            · rw [if_pos c6] at H
              have c6b0 : decide (x13_1 < (l0.length : Int)) = true := decide_eq_true c6; clear c6
              by_cases c7 : x13_1 < (l1.length : Int)
              · rw [if_pos c7] at H
                have c7b0 : decide (x13_1 < (l1.length : Int)) = true := decide_eq_true c7; clear c7
                by_cases c8 : (!((((rd_T76 l0 x13_1).f0).toList) == (((rd_T76 l1 x13_1).f0).toList)) || (!((((rd_T76 l0 x13_1).f1).toList) == (((rd_T76 l1 x13_1).f1).toList)))) = true
                · rw [if_pos c8] at H
                  have c8b0 : (!((((rd_T76 l0 x13_1).f0).toList) == (((rd_T76 l1 x13_1).f0).toList)) || (!((((rd_T76 l0 x13_1).f1).toList) == (((rd_T76 l1 x13_1).f1).toList)))) = true := c8
                  clear c8
                  obtain rfl := Option.some.inj H
                  have p496 : 0 ≤ (x13_1 : Int) := of_decide_eq_true as_
                  have q496 : x13_1 < (l0.length : Int) := of_decide_eq_true as_
                  obtain ⟨ad496, e496, hx496_0, hx496_1⟩ := at_T76 HR0.out x13_1 p496 q496
                  cases e496
                  replace p496 := eq_true p496
                  replace q496 := eq_true q496
                  have p497 : 0 ≤ (x13_1 : Int) := of_decide_eq_true as_
                  have q497 : x13_1 < (l1.length : Int) := of_decide_eq_true as_
                  obtain ⟨ad497, e497, hx497_0, hx497_1⟩ := at_T76 HR1.out x13_1 p497 q497
                  cases e497
                  replace p497 := eq_true p497
                  replace q497 := eq_true q497
                  go_wp2
                  repeat (go_quiet (fail); try go_wp2)
                  go_ret
                  exact ⟨rs_, by repeat (first | exact Drawn0.refl _ | apply Drawn0.step)⟩
                · rw [if_neg c8] at H
                  have c8b0 : (!((((rd_T76 l0 x13_1).f0).toList) == (((rd_T76 l1 x13_1).f0).toList)) || (!((((rd_T76 l0 x13_1).f1).toList) == (((rd_T76 l1 x13_1).f1).toList)))) = false := by simpa using c8
                  clear c8
                  have H' := aM H
                  clear H
                  have p496 : 0 ≤ (x13_1 : Int) := of_decide_eq_true as_
                  have q496 : x13_1 < (l0.length : Int) := of_decide_eq_true as_
                  obtain ⟨ad496, e496, hx496_0, hx496_1⟩ := at_T76 HR0.out x13_1 p496 q496
                  cases e496
                  replace p496 := eq_true p496
                  replace q496 := eq_true q496
                  have p497 : 0 ≤ (x13_1 : Int) := of_decide_eq_true as_
                  have q497 : x13_1 < (l1.length : Int) := of_decide_eq_true as_
                  obtain ⟨ad497, e497, hx497_0, hx497_1⟩ := at_T76 HR1.out x13_1 p497 q497
                  cases e497
                  replace p497 := eq_true p497
                  replace q497 := eq_true q497
                  go_wp2
                  repeat (go_quiet (fail); try go_wp2)
                  go_roundg k1
                  case measure => have := HK1.out; omega
                  case rel => exact ⟨(wrap64 (x13_1 + 1)), rs_, H', ⟨by have := HK1.out; omega⟩, by repeat (first | exact Drawn0.refl _ | apply Drawn0.step)⟩
              · rw [if_neg c7] at H
                exact absurd H (by simp)
            · rw [if_neg c6] at H
              exact absurd H (by simp)
          · rw [if_neg c5] at H
            exact absurd H (by simp)
        · rw [if_neg c4] at H
          have c4b0 : decide (x13_1 < (l0.length : Int)) = false := decide_eq_false c4; clear c4
          obtain rfl := Option.some.inj H
          go_wp2
          repeat (go_quiet (fail); try go_wp2)
          go_ret
          exact ⟨rs_, by repeat (first | exact Drawn0.refl _ | apply Drawn0.step)⟩
  · rw [if_neg c3] at H
    have c3b0 : ((l0.length : Int) == (l1.length : Int)) = false := beq_eq_false_iff_ne.mpr c3
    have c3b1 : ((l0.length : Int) != (l1.length : Int)) = true := bne_iff_ne.mpr c3
    have c3b2 : (l0.length == l1.length) = false := by first | simpa using c3 | (simp at c3 ⊢; omega)
    obtain rfl := Option.some.inj H
    go_enter Try.func46, Try.ntmps46
    go_wp2
    repeat (go_quiet (fail); try go_wp2)
    go_ret
    exact ⟨rs_, by repeat (first | exact Drawn0.refl _ | apply Drawn0.step)⟩

/-! ### impl_labelsAt: function 45 -/
def impl_labelsAt.l0 : Nat → List (S76) → List (S29) → Int → Int → Option (Int)
  | 0, _, _, _, _ => none
  | k + 1, x1, x7, x8, x9 => if x9 < x8 then (if 0 ≤ x9 then (if x9 < (x7.length : Int) then ((impl_SameSet.f k ((rd_T29 x7 x9).f0) x1).bind fun t500 => (if t500 = true then (some x9) else (impl_labelsAt.l0 k x1 x7 x8 (wrap64 (x9 + 1))))) else (none)) else (none)) else (some (-1))
def impl_labelsAt.f (k : Nat) (l0 : List (S29)) (l1 : List (S76)) : Option (Int) := impl_labelsAt.l0 k l1 l0 (l0.length : Int) 0
theorem impl_labelsAt.calls (k : Nat) (A0 : Option Addr) (c0 : Nat) (l0 : List (S29)) (A1 : Option Addr) (c1 : Nat) (l1 : List (S76)) (r : Int) (w : World) (hr0 : Kd.C k29 w A0 l0.length l0) (hc0 : l0.length ≤ c0) (hr1 : Kd.C k76 w A1 l1.length l1) (hc1 : l1.length ≤ c1) (h : impl_labelsAt.f k l0 l1 = some r) :
    Calls Try.prog 45 #[.slice A0 l0.length c0, .slice A1 l1.length c1] w fun e w' => e = .returned (.int .i64 r) ∧ Below w.heap.size w w' := by
  have hu29 := Try.underlying29
  have HR0 := aM hr0
  have HC0 := aM hc0
  clear hr0 hc0
  have HR1 := aM hr1
  have HC1 := aM hc1
  clear hr1 hc1
  have HB := aM (Below.refl w.heap.size w)
  have H : (impl_labelsAt.l0 k l1 l0 (l0.length : Int) 0) = some r := h
  clear h
  have H' := aM H
  clear H
  go_enter Try.func45, Try.ntmps45
  go_wp2
  go_loopg [9] k (fun kq v9 w' => ∃ (x9_1 : Int), v9 = .int .i64 x9_1 ∧ Aside0 (impl_labelsAt.l0 kq l1 l0 (l0.length : Int) x9_1 = some r) ∧ Aside0 (kq ≤ k) ∧ Aside0 (Below w.heap.size w w'))
  case atStart => exact ⟨(0), rs_, H', ⟨Nat.le_refl _⟩, ⟨(bw HB)⟩⟩
  case round =>
    clear H'
    try clear c1
    try clear p2
    obtain ⟨x9_1, rfl, HA, HK1, HB⟩ := hrel
    cases gk with
    | zero => exact absurd HA.out (by simp [impl_labelsAt.l0])
    | succ k1 =>
      have H := HA.out
      clear HA
      simp only [impl_labelsAt.l0] at H
      by_cases c3 : x9_1 < (l0.length : Int)
      · rw [if_pos c3] at H
        have c3b0 : decide (x9_1 < (l0.length : Int)) = true := decide_eq_true c3; clear c3
        by_cases c4 : 0 ≤ x9_1
        · rw [if_pos c4] at H
          have c4b0 : decide (0 ≤ x9_1) = true := decide_eq_true c4; clear c4
          by_cases c5 : x9_1 < (l0.length : Int)
          · rw [if_pos c5] at H
            have c5b0 : decide (x9_1 < (l0.length : Int)) = true := decide_eq_true c5; clear c5; replace H := bs_ H; obtain ⟨t500, A60, H⟩ := H; try dsimp only at H
            have A6 := aM A60
            clear A60
            by_cases c7 : t500 = true
            · subst c7
              have H1 : (some x9_1) = some r := by rw [if_pos rfl] at H; exact H
              clear H
              have H := H1
              clear H1
              obtain rfl := Option.some.inj H
              have p498 : 0 ≤ (x9_1 : Int) := of_decide_eq_true as_
              have q498 : x9_1 < (l0.length : Int) := of_decide_eq_true as_
              obtain ⟨ad498, A498_0, c498_0, e498, hx498_0, hx498_1, hx498_2, hx498_3, hl498_0, hi498_0⟩ := at_T29 HR0.out x9_1 p498 q498
              cases e498
              replace hx498_0 := cb HB hx498_0
              replace hx498_1 := cb HB hx498_1
              replace hx498_2 := cb HB hx498_2
              replace hx498_3 := cb HB hx498_3
              have HR498_0 := aM hi498_0
              have HC498_0 := aM hl498_0
              clear hi498_0 hl498_0
              replace p498 := eq_true p498
              replace q498 := eq_true q498
              go_wp2_with (first | (refine be_ 6 #[.slice none 0 0, .int .i64 0, .int .i64 0, .string (⟨#[]⟩ : ByteArray)] 29 ?_; intro gb499 hg w8 hbox hb; have BK499 := aM (hbox); have GW499 := gw hg (bw HB); have GE499 := gw hg (bw HB); replace HB := aM (below_step (bw HB) hb); clear hb hbox hg; obtain ⟨hcz9_0, hcz9_1, hcz9_2, hcz9_3⟩ := zc4 BK499; have hfz9_0 := zf BK499) | (refine gl_ (some 17) Try.func46 #[.slice A498_0 ((rd_T29 l0 x9_1).f0).length c498_0, .slice A1 l1.length c1] ?_; (with_reducible refine (impl_SameSet.calls k1 _ _ ((rd_T29 l0 x9_1).f0) _ _ l1 true _ ?side1 ?side2 ?side3 ?side4 A6.out).mono ?_); (case side1 => exact Kd.C_below HR498_0.out (bw HB)); (case side2 => exact HC498_0.out); (case side3 => exact Kd.C_below HR1.out (bw HB)); (case side4 => exact HC1.out); rintro e w' ⟨rfl, ⟨nd, rfl⟩⟩; refine ⟨_, rfl, ?_⟩))
              go_ret
              exact ⟨er, (bw HB)⟩
            · replace c7 := Bool.eq_false_iff.mpr c7
              subst c7
              have H1 : (impl_labelsAt.l0 k1 l1 l0 (l0.length : Int) (wrap64 (x9_1 + 1))) = some r := by rw [if_neg (show ¬ (false = true) by decide)] at H; exact H
              clear H
              have H := H1
              clear H1
              have H' := aM H
              clear H
              have p498 : 0 ≤ (x9_1 : Int) := of_decide_eq_true as_
              have q498 : x9_1 < (l0.length : Int) := of_decide_eq_true as_
              obtain ⟨ad498, A498_0, c498_0, e498, hx498_0, hx498_1, hx498_2, hx498_3, hl498_0, hi498_0⟩ := at_T29 HR0.out x9_1 p498 q498
              cases e498
              replace hx498_0 := cb HB hx498_0
              replace hx498_1 := cb HB hx498_1
              replace hx498_2 := cb HB hx498_2
              replace hx498_3 := cb HB hx498_3
              have HR498_0 := aM hi498_0
              have HC498_0 := aM hl498_0
              clear hi498_0 hl498_0
              replace p498 := eq_true p498
              replace q498 := eq_true q498
              go_wp2_with (first | (refine be_ 6 #[.slice none 0 0, .int .i64 0, .int .i64 0, .string (⟨#[]⟩ : ByteArray)] 29 ?_; intro gb499 hg w10 hbox hb; have BK499 := aM (hbox); have GW499 := gw hg (bw HB); have GE499 := gw hg (bw HB); replace HB := aM (below_step (bw HB) hb); clear hb hbox hg; obtain ⟨hcz11_0, hcz11_1, hcz11_2, hcz11_3⟩ := zc4 BK499; have hfz11_0 := zf BK499) | (refine gl_ (some 17) Try.func46 #[.slice A498_0 ((rd_T29 l0 x9_1).f0).length c498_0, .slice A1 l1.length c1] ?_; (with_reducible refine (impl_SameSet.calls k1 _ _ ((rd_T29 l0 x9_1).f0) _ _ l1 false _ ?side1 ?side2 ?side3 ?side4 A6.out).mono ?_); (case side1 => exact Kd.C_below HR498_0.out (bw HB)); (case side2 => exact HC498_0.out); (case side3 => exact Kd.C_below HR1.out (bw HB)); (case side4 => exact HC1.out); rintro e w' ⟨rfl, ⟨nd, rfl⟩⟩; refine ⟨_, rfl, ?_⟩))
              go_roundg k1
              case measure => have := HK1.out; omega
              case rel => exact ⟨(wrap64 (x9_1 + 1)), rs_, H', ⟨by have := HK1.out; omega⟩, ⟨(bw HB)⟩⟩
          · rw [if_neg c5] at H
            exact absurd H (by simp)
        · rw [if_neg c4] at H
          exact absurd H (by simp)
      · rw [if_neg c3] at H
        have c3b0 : decide (x9_1 < (l0.length : Int)) = false := decide_eq_false c3; clear c3
        obtain rfl := Option.some.inj H
        go_wp2
        go_ret
        exact ⟨er, (bw HB)⟩

end Go.Proofs.Ytdhignbneeapiaa.PFnChains
