/- What the Go functions that FnChains reaches compute, as Lean functions, and that the machine's calls do so; no conditions. -/
import Derived.Test.YtdhignbneeapiaaPFnChainsx0
import Derived.Test.YtdhignbneeapiaaPFnChainsx2
import Derived.Test.YtdhignbneeapiaaPFnChainsx3
import Derived.Test.YtdhignbneeapiaaPFnChainsx4
import Derived.Test.YtdhignbneeapiaaPFnChainsx7
namespace Go.Proofs.Ytdhignbneeapiaa.PFnChains
open Go.Proofs.Ytdhignbneeapiaa
open Go.RowKit Go.Proofs.YtdhignbneeapiaaW.PrintWords Go.Proofs.YtdhignbneeapiaaW.PrintLast Go.Proofs.YtdhignbneeapiaaW.PrintMore
attribute [local go_sem] max2_int min2_int max_two min_two max_three min_three max_four min_four   -- for this text's walks alone
set_option linter.unusedVariables false
set_option linter.unusedSimpArgs false
set_option maxHeartbeats 8000000
set_option maxRecDepth 100000

/-! ### spec_l6Draw: function 48 -/
mutual
def spec_l6Draw.l0 : Nat → Int → List Int → Int → Int → List (S76) → Int → Int → ByteArray → Int → List (S29) → Option (Int × (List (S29)) × Int × Int)
 | 0, _, _, _, _, _, _, _, _, _, _ => none
 | k + 1, x5, x1000, x1001, x1002, x278000, x278001, x278002, x278003, x280000, x280001 => if x5 ≥ 0 then ((spec_Finger.f k x278000).bind fun t283 => (if t283 = x280000 then (spec_l6Draw.j1 k x5 (decide ((x280001.length : Int) < 4)) x1000 x1001 x1002 x278000 x278001 x278002 x278003 x280000 x280001) else (spec_l6Draw.j1 k x5 false x1000 x1001 x1002 x278000 x278001 x278002 x278003 x280000 x280001))) else (some (x280000, x280001, x1001, x1002))
def spec_l6Draw.j1 : Nat → Int → Bool → List Int → Int → Int → List (S76) → Int → Int → ByteArray → Int → List (S29) → Option (Int × (List (S29)) × Int × Int)
 | 0, _, _, _, _, _, _, _, _, _, _, _ => none
 | k + 1, x5, x29, x1000, x1001, x1002, x278000, x278001, x278002, x278003, x280000, x280001 => if x29 = true then ((spec_PutChain.f k x280000 x280001 x278000 x278001 x278002 x278003).bind fun bt284 => ((spec_l4Draw.f k x1000 x1001 x1002).bind fun bt289 => (spec_l6Draw.l0 k (wrap64 (x5 - 1)) x1000 bt289.2.2.2.2.1 bt289.2.2.2.2.2 bt289.1 bt289.2.1 bt289.2.2.1 bt289.2.2.2.1 bt284.1 bt284.2.1))) else ((spec_l4Draw.f k x1000 x1001 x1002).bind fun bt297 => (spec_l6Draw.l0 k (wrap64 (x5 - 1)) x1000 bt297.2.2.2.2.1 bt297.2.2.2.2.2 bt297.1 bt297.2.1 bt297.2.2.1 bt297.2.2.2.1 x280000 x280001))
end
def spec_l6Draw.f (k : Nat) (s0_0 : List Int) (s0_1 : Int) (s0_2 : Int) : Option (Int × (List (S29)) × Int × Int) := (spec_l4Draw.f k s0_0 s0_1 s0_2).bind fun bt269 => ((spec_Finger.f k bt269.1).bind fun t278 => ((spec_l1Below.f s0_0 bt269.2.2.2.2.1 bt269.2.2.2.2.2 30).bind fun bt280 => (spec_l6Draw.l0 k bt280.1 s0_0 bt280.2.1 bt280.2.2 bt269.1 bt269.2.1 bt269.2.2.1 bt269.2.2.2.1 t278 ([] : List (S29)))))
def spec_l6Draw.T6 : Bool × List (List Nat × List Nat) := (true, [([], []), ([0], [0]), ([1], [1]), ([], []), ([3], [3]), ([2, 4], [2, 4]), ([5, 2], [5]), ([6], [6]), ([7, 6], [6, 7]), ([8, 6], [6, 8]), ([9, 6], [6, 9]), ([6, 10], [6, 10])])
def spec_l6Draw.B6 : List Nat := [0, 1, 3, 0, 8, 31, 63, 127, 255, 511, 1023, 2047]
theorem spec_l6Draw.tab6 : rtab .any (opsOf Try.f48 6) = spec_l6Draw.T6 := by kernel_rfl
theorem spec_l6Draw.bits6 : waitsOk spec_l6Draw.T6.2 spec_l6Draw.B6 = true := by kernel_rfl
theorem spec_l6Draw.calls (k : Nat) (g : Nat) (s0_0 : List Int) (s0_1 : Int) (s0_2 : Int) (r1 : Int) (r2 : List (S29)) (r3 : Int) (r4 : Int) (w0 w : World) (hI : IsS67 w0 w g s0_0 s0_1 s0_2) (hB : Below w0.heap.size w0 w) (h : spec_l6Draw.f k s0_0 s0_1 s0_2 = some (r1, r2, r3, r4)) :
  Calls Try.prog 48 #[.pointer (some ⟨g, 0, none⟩)] w fun e w' => ∃ v1_ : Value, e = .returned (.agg #[.int .i64 r1, v1_]) ∧ Kd.S k29 29 w' w.heap.size (fun _ => True) v1_ r2 ∧ IsS67 w0 w' g s0_0 r3 r4 ∧ Below w0.heap.size w0 w' ∧ KeepBut w w' g none := by
 have hu26 := Try.underlying26
 have hu29 := Try.underlying29
 have HI0 := aM hI
 have HK := aM (KeepBut.refl w g none)
 have HL := aM hB.size
 clear hI
 have HW0 := aM hB.size
 have HB := aM hB
 clear hB
 have H : ((spec_l4Draw.f k s0_0 s0_1 s0_2).bind fun bt269 => ((spec_Finger.f k bt269.1).bind fun t278 => ((spec_l1Below.f s0_0 bt269.2.2.2.2.1 bt269.2.2.2.2.2 30).bind fun bt280 => (spec_l6Draw.l0 k bt280.1 s0_0 bt280.2.1 bt280.2.2 bt269.1 bt269.2.1 bt269.2.2.1 bt269.2.2.2.1 t278 ([] : List (S29)))))) = some (r1, r2, r3, r4) := h
 clear h; replace H := bs_ H
 obtain ⟨⟨t269, t272, t273, t274, t275, t276⟩, A20, H⟩ := H
 try dsimp only at H
 have A2 := aM A20
 clear A20; replace H := bs_ H; obtain ⟨t278, A30, H⟩ := H; try dsimp only at H
 have A3 := aM A30
 clear A30; replace H := bs_ H
 obtain ⟨⟨t280, t281, t282⟩, A40, H⟩ := H
 try dsimp only at H
 have A4 := aM A40
 clear A40
 have H' := aM H
 clear H
 go_enter Try.func48, Try.ntmps48
 go_wp2_with (first | ((with_reducible refine gate_dst (N := 2) rfl ?_); (try (refine gate_guard (by rfl) ?_; dsimp only)); refine box_event rfl (N := 2) rfl (cs := #[.int .i64 0, .slice none 0 0]) (t := 26) gs ?_; intro gb268 hg w5 hbox hb; replace HB := aM (below_step (bw HB) hb); have BK268 := aM (hbox); have GW268 := gk hg (kw HK); have GE268 := aM ((Nat.le_trans HW0.out (by rw [hg]; exact (keep_size (w := w) (g := g) (row := none) (kw HK)) : w.heap.size ≤ gb268) : w0.heap.size ≤ gb268)); replace HK := aM (KeepBut.trans (kw HK) (KeepBut.of_below hb g none) (.inl rfl)); have NB0_268 := aM ((by rw [hg]; exact Nat.ne_of_lt (IsS67.lt (show IsS67 w0 _ g s0_0 s0_1 s0_2 from (iw HI0))) : g ≠ gb268)); have NB268_0 := aM ((by rw [hg]; exact Nat.ne_of_gt (IsS67.lt (show IsS67 w0 _ g s0_0 s0_1 s0_2 from (iw HI0))) : gb268 ≠ g)); replace HI0 := aM (IsS67.below (iw HI0) hb); clear hb hbox hg) | (refine gl_ (some 7) Try.func25 #[.pointer (some ⟨g, 0, none⟩)] ?_; (with_reducible refine (spec_l4Draw.calls k g s0_0 s0_1 s0_2 t269 t272 t273 t274 t275 t276 w0 _ ?side1 ?side2 A2.out).mono ?_); (case side1 => exact iw HI0); (case side2 => exact bw HB); rintro e w6 ⟨v270, rfl, ho0, hi, hb, hk⟩; refine ⟨_, rfl, ?_⟩; replace BK268 := aM (KeepBut.blk hk (g' := gb268) (aB BK268) NB268_0.out (by simp)); have HO271 := aM (Kd.R_lower ho0 (keep_size (w := w) (g := g) (row := none) (kw HK))); replace HK := aM (KeepBut.trans (kw HK) hk (.inl rfl)); replace HB := aM (hb); replace HI0 := aM (hi); (try clear hb); (try clear hb2); (try clear hk); (try clear hi); (try clear ho0)) | ((with_reducible refine gate_dst (N := 3) rfl ?_); (try (refine gate_guard (by rfl) ?_; dsimp only)); refine box_event rfl (N := 3) rfl (cs := #[.slice none 0 0, .int .i64 0, .int .i64 0, .string (⟨#[]⟩ : ByteArray)]) (t := 29) gs ?_; intro gb277 hg w7 hbox hb; replace HO271 := rb HO271 hb; replace HB := aM (below_step (bw HB) hb); have BK277 := aM (hbox); have GW277 := gk hg (kw HK); have GE277 := aM ((Nat.le_trans HW0.out (by rw [hg]; exact (keep_size (w := w) (g := g) (row := none) (kw HK)) : w.heap.size ≤ gb277) : w0.heap.size ≤ gb277)); replace HK := aM (KeepBut.trans (kw HK) (KeepBut.of_below hb g none) (.inl rfl)); have NB268_277 := nb1 hg BK268; have NB277_268 := nb2 hg BK268; replace BK268 := bb BK268 hb; have NB0_277 := aM ((by rw [hg]; exact Nat.ne_of_lt (IsS67.lt (show IsS67 w0 _ g s0_0 t275 t276 from (iw HI0))) : g ≠ gb277)); have NB277_0 := aM ((by rw [hg]; exact Nat.ne_of_gt (IsS67.lt (show IsS67 w0 _ g s0_0 t275 t276 from (iw HI0))) : gb277 ≠ g)); replace HI0 := aM (IsS67.below (iw HI0) hb); clear hb hbox hg; obtain ⟨Ao8, co8, eo8⟩ := Kd.R_slice HO271.out; subst eo8; have hnb9 := NB277_268.out; have hnc9 := NB268_277.out; have hnb10 := NB277_0.out; have hnc10 := NB0_277.out; obtain ⟨hcz11_0, hcz11_1, hcz11_2, hcz11_3⟩ := zc4 BK277; have hfz11_0 := zf BK277) | (refine gl_ (some 10) Try.func42 #[.slice Ao8 t269.length co8] ?_; (with_reducible refine (spec_Finger.calls k _ _ t269 t278 _ ?side1 ?side2 A3.out).mono ?_); (case side1 => refine (Kd.R_reads' (e := 76) (base := w.heap.size) (ok := fun k_ => True) (n := t269.length) (c := co8) ?_).2.2; exact (by (with_reducible repeat (first | apply aR1 | apply aR2 | apply aR3)); exact (Kd.R_mono (Kd.R_far (p := ⟨gb277, 3, none⟩) (Kd.R_far (p := ⟨gb277, 2, none⟩) (Kd.R_far (p := ⟨gb277, 1, none⟩) (Kd.R_far (p := ⟨gb277, 0, none⟩) (Kd.R_types HO271.out BK277.out (by decide)) (fun _ hk => hk.2) (.slice Ao8 t269.length co8)) (fun _ hk => hk.2) (.int .i64 t272)) (fun _ hk => hk.2) (.int .i64 t273)) (fun _ hk => hk.2) (.string t274)) (fun _ h_ => h_.1)))); (case side2 => exact (Kd.R_reads' HO271.out).2.1); rintro e w12 ⟨rfl, hb⟩; refine ⟨_, rfl, ?_⟩; replace HO271 := aM (Kd.R_below (by (with_reducible repeat (first | apply aR1 | apply aR2 | apply aR3)); exact (Kd.R_mono (Kd.R_far (p := ⟨gb277, 3, none⟩) (Kd.R_far (p := ⟨gb277, 2, none⟩) (Kd.R_far (p := ⟨gb277, 1, none⟩) (Kd.R_far (p := ⟨gb277, 0, none⟩) (Kd.R_types HO271.out BK277.out (by decide)) (fun _ hk => hk.2) (.slice Ao8 t269.length co8)) (fun _ hk => hk.2) (.int .i64 t272)) (fun _ hk => hk.2) (.int .i64 t273)) (fun _ hk => hk.2) (.string t274)) (fun _ h_ => h_.1))) hb); replace BK268 := aM (blk_below (g := gb268) (o := .cells #[.int .i64 0, .slice none 0 0] 26 (0, 0)) (by refine blk_far ?_ NB268_277.out _; refine blk_far ?_ NB268_277.out _; refine blk_far ?_ NB268_277.out _; refine blk_far ?_ NB268_277.out _; exact aB BK268) hb); replace BK277 := aM (blk_below (g := gb277) (o := .cells #[.slice Ao8 t269.length co8, .int .i64 t272, .int .i64 t273, .string t274] 29 (0, 0)) (by refine blk_put (cs := #[.slice Ao8 t269.length co8, .int .i64 t272, .int .i64 t273, .string (⟨#[]⟩ : ByteArray)]) ?_ 3 _ rfl; refine blk_put (cs := #[.slice Ao8 t269.length co8, .int .i64 t272, .int .i64 0, .string (⟨#[]⟩ : ByteArray)]) ?_ 2 _ rfl; refine blk_put (cs := #[.slice Ao8 t269.length co8, .int .i64 0, .int .i64 0, .string (⟨#[]⟩ : ByteArray)]) ?_ 1 _ rfl; refine blk_put (cs := #[.slice none 0 0, .int .i64 0, .int .i64 0, .string (⟨#[]⟩ : ByteArray)]) ?_ 0 _ rfl; exact aB BK277) hb); replace HK := aM (KeepBut.trans (kw HK) (KeepBut.of_below hb g none) (.inl rfl)); replace HB := aM (below_step (bw HB) hb); replace HI0 := aM (IsS67.below (show IsS67 w0 ((((w7.setCell ⟨gb277, 0, none⟩ (.slice Ao8 t269.length co8)).setCell ⟨gb277, 1, none⟩ (.int .i64 t272)).setCell ⟨gb277, 2, none⟩ (.int .i64 t273)).setCell ⟨gb277, 3, none⟩ (.string t274)) g s0_0 t275 t276 from (iw HI0)) hb); (try clear hb); (try clear hb2); (try clear hk); (try clear hi)) | ((with_reducible refine gate_dst (N := 4) rfl ?_); (try (refine gate_guard (by rfl) ?_; dsimp only)); refine box_event rfl (N := 4) rfl (cs := #[.int .i64 0, .slice none 0 0]) (t := 26) gs ?_; intro gb279 hg w13 hbox hb; replace HO271 := rb HO271 hb; replace HB := aM (below_step (bw HB) hb); have BK279 := aM (hbox); have GW279 := gk hg (kw HK); have GE279 := aM ((Nat.le_trans HW0.out (by rw [hg]; exact (keep_size (w := w) (g := g) (row := none) (kw HK)) : w.heap.size ≤ gb279) : w0.heap.size ≤ gb279)); replace HK := aM (KeepBut.trans (kw HK) (KeepBut.of_below hb g none) (.inl rfl)); have NB268_279 := nb1 hg BK268; have NB279_268 := nb2 hg BK268; replace BK268 := bb BK268 hb; have NB277_279 := nb1 hg BK277; have NB279_277 := nb2 hg BK277; replace BK277 := bb BK277 hb; have NB0_279 := aM ((by rw [hg]; exact Nat.ne_of_lt (IsS67.lt (show IsS67 w0 _ g s0_0 t275 t276 from (iw HI0))) : g ≠ gb279)); have NB279_0 := aM ((by rw [hg]; exact Nat.ne_of_gt (IsS67.lt (show IsS67 w0 _ g s0_0 t275 t276 from (iw HI0))) : gb279 ≠ g)); replace HI0 := aM (IsS67.below (iw HI0) hb); clear hb hbox hg; have hnb14 := NB279_268.out; have hnc14 := NB268_279.out; have hnb15 := NB279_277.out; have hnc15 := NB277_279.out; have hnb16 := NB279_0.out; have hnc16 := NB0_279.out; obtain ⟨hcz17_0, hcz17_1⟩ := zc2 BK279; have hfz17_0 := zf BK279) | (refine gl_ (some 13) Try.func27 #[.pointer (some ⟨g, 0, none⟩), .int .i64 30] ?_; (with_reducible refine (spec_l1Below.calls g s0_0 t275 t276 30 t280 t281 t282 w0 _ ?side1 ?side2 A4.out).mono ?_); (case side1 => exact iw HI0); (case side2 => exact bw HB); rintro e w18 ⟨rfl, hi, hb, hk⟩; refine ⟨_, rfl, ?_⟩; replace BK268 := aM (KeepBut.blk hk (g' := gb268) (o := .cells #[.int .i64 0, .slice none 0 0] 26 (0, 0)) (by refine blk_far ?_ NB268_279.out _; refine blk_far ?_ NB268_279.out _; exact aB BK268) NB268_0.out (by simp)); replace HO271 := aM (Kd.R_mono (Kd.R_keep (IsS67.apart (show IsS67 w0 _ g s0_0 t275 t276 from (iw HI0)) (by (with_reducible repeat (first | apply aR1 | apply aR2 | apply aR3)); exact (Kd.R_mono (Kd.R_far (p := ⟨gb279, 1, none⟩) (Kd.R_far (p := ⟨gb279, 0, none⟩) (Kd.R_types HO271.out BK279.out (by decide)) (fun _ hk => hk.2) (.int .i64 t278)) (fun _ hk => hk.2) (.slice none 0 0)) (fun _ h_ => h_.1))) (by decide)) hk (fun _ h => h.2)) (fun _ h => h.1)); replace BK277 := aM (KeepBut.blk hk (g' := gb277) (o := .cells #[.slice Ao8 t269.length co8, .int .i64 t272, .int .i64 t273, .string t274] 29 (0, 0)) (by refine blk_far ?_ NB277_279.out _; refine blk_far ?_ NB277_279.out _; exact aB BK277) NB277_0.out (by simp)); replace BK279 := aM (KeepBut.blk hk (g' := gb279) (o := .cells #[.int .i64 t278, .slice none 0 0] 26 (0, 0)) (by refine blk_put (cs := #[.int .i64 t278, .slice none 0 0]) ?_ 1 _ rfl; refine blk_put (cs := #[.int .i64 0, .slice none 0 0]) ?_ 0 _ rfl; exact aB BK279) NB279_0.out (by simp)); replace HK := aM (KeepBut.trans (kw HK) hk (.inl rfl)); replace HB := aM (hb); replace HI0 := aM (hi); (try clear hb); (try clear hb2); (try clear hk); (try clear hi)))
 go_loopg [5] k (fun kq v5 w' => ∃ (x5_1 : Int) (x1001_1 : Int) (x1002_1 : Int) (x278000_1 : List (S76)) (x278001_1 : Int) (x278002_1 : Int) (x278003_1 : ByteArray) (x280000_1 : Int) (x280001_1 : List (S29)) (u278000 : Value) (u280001 : Value), v5 = .int .i64 x5_1 ∧ Aside0 (spec_l6Draw.l0 kq x5_1 s0_0 x1001_1 x1002_1 x278000_1 x278001_1 x278002_1 x278003_1 x280000_1 x280001_1 = some (r1, r2, r3, r4)) ∧ Aside0 (kq ≤ k) ∧ Aside0 (Kd.R k76 76 w' w.heap.size (fun _ => True) u278000 x278000_1) ∧ Aside0 (Kd.S k29 29 w' w.heap.size (fun k_ => some k_ ≠ (u278000 : Value).ownBlock ∧ k_ ≠ gb277) u280001 x280001_1) ∧ Aside0 (w'.heap[gb268]? = some (.cells #[.int .i64 0, (.slice none 0 0)] 26 (0, 0))) ∧ Aside0 (w'.heap[gb277]? = some (.cells #[u278000, .int .i64 x278001_1, .int .i64 x278002_1, .string x278003_1] 29 (0, 0))) ∧ Aside0 (w'.heap[gb279]? = some (.cells #[.int .i64 x280000_1, u280001] 26 (0, 0))) ∧ Aside0 (IsS67 w0 w' g s0_0 x1001_1 x1002_1) ∧ Aside0 (KeepBut w w' g none) ∧ Aside0 (Below w0.heap.size w0 w'))
 case atStart => exact ⟨(t280), (t281), (t282), (t269), (t272), (t273), (t274), (t278), (([] : List (S29))), (.slice Ao8 t269.length co8), (.slice none 0 0), rs_, H', ⟨Nat.le_refl _⟩, ⟨by (with_reducible repeat (first | apply aR1 | apply aR2 | apply aR3)); exact HO271.out⟩, ⟨by first | exact Kd.S_nil _ _ _ _ _ | exact Kd.N_nil _ _ _ _ _ | exact Kd.V_nil _ _ _ _ _ | exact Kd.Q_nil _ _ _ _ _ | exact Kd.R_nil _ _ _ _ _⟩, ⟨by exact aB BK268⟩, ⟨by exact aB BK277⟩, ⟨by exact aB BK279⟩, ⟨(iw HI0)⟩, ⟨(kw HK)⟩, ⟨(bw HB)⟩⟩
 case round =>
  clear H'
  try clear c1
  try clear c2
  try clear p2
  try clear c4
  try clear c9
  try clear c10
  try clear c14
  try clear c15
  try clear c16
  try clear hcz11_0
  try clear hcz11_1
  try clear hcz11_2
  try clear hcz11_3
  try clear hcz17_0
  try clear hcz17_1
  try clear hfz11_0
  try clear hfz11_1
  try clear hfz11_2
  try clear hfz11_3
  try clear hfz17_0
  try clear hfz17_1
  obtain ⟨x5_1, x1001_1, x1002_1, x278000_1, x278001_1, x278002_1, x278003_1, x280000_1, x280001_1, u278000, u280001, rfl, HA, HK1, HO_278000, HO_280001, BK268, BK277, BK279, HI0, HK, HB⟩ := hrel
  cases gk with
  | zero => exact absurd HA.out (by simp [spec_l6Draw.l0])
  | succ k1 =>
   have H := HA.out
   clear HA
   simp only [spec_l6Draw.l0] at H
   by_cases c19 : x5_1 ≥ 0
   ·rw [if_pos c19] at H; have c19b0 : decide (0 ≤ x5_1) = true := decide_eq_true c19; clear c19
    have HC20 := aM H
    clear H
    go_upto_region 6 with (fail)
    go_cut [29] (fun v29 wc => ∃ (kq : Nat) (x29_19 : Bool), v29 = .bool x29_19 ∧ Aside0 (spec_l6Draw.j1 kq x5_1 x29_19 s0_0 x1001_1 x1002_1 x278000_1 x278001_1 x278002_1 x278003_1 x280000_1 x280001_1 = some (r1, r2, r3, r4)) ∧ Aside0 (kq ≤ k1) ∧ Aside0 (Kd.R k76 76 wc w.heap.size (fun _ => True) u278000 x278000_1) ∧ Aside0 (Kd.S k29 29 wc w.heap.size (fun k_ => some k_ ≠ (u278000 : Value).ownBlock ∧ k_ ≠ gb277) u280001 x280001_1) ∧ Aside0 (wc.heap[gb268]? = some (.cells #[.int .i64 0, (.slice none 0 0)] 26 (0, 0))) ∧ Aside0 (wc.heap[gb277]? = some (.cells #[u278000, .int .i64 x278001_1, .int .i64 x278002_1, .string x278003_1] 29 (0, 0))) ∧ Aside0 (wc.heap[gb279]? = some (.cells #[.int .i64 x280000_1, u280001] 26 (0, 0))) ∧ Aside0 (IsS67 w0 wc g s0_0 x1001_1 x1002_1) ∧ Aside0 (KeepBut w wc g none) ∧ Aside0 (Below w0.heap.size w0 wc))
    case first =>
     have H := HC20.out
     clear HC20; replace H := bs_ H; obtain ⟨t283, A210, H⟩ := H; try dsimp only at H
     have A21 := aM A210
     clear A210
     by_cases c22 : t283 = x280000_1
     ·rw [if_pos c22] at H
      have c22b0 : (t283 == x280000_1) = true := beq_iff_eq.mpr c22
      have c22b1 : (t283 != x280000_1) = false := bne_eq_false_iff_eq.mpr c22
      clear c22
      (first | rw [c22b0] | (simp only [i64_w, i32_w]; rw [c22b0]) | skip)
      have H' := aM H
      clear H
      try go_wp2
      replace HO_278000 := aM (Kd.R_drew HO_278000.out)
      replace HO_280001 := aM (Kd.S_drew HO_280001.out)
      replace BK268 := aM (blk_drew BK268.out)
      replace BK277 := aM (blk_drew BK277.out)
      replace BK279 := aM (blk_drew BK279.out)
      replace HI0 := aM (IsS67.drew HI0.out)
      replace HK := aM (keep_drew HK.out)
      replace HB := aM (below_drew1 HB.out)
      obtain ⟨Ao24, co24, eo24⟩ := Kd.R_slice HO_278000.out
      (first | subst eo24 | (injection eo24 with f1_ f2_ f3_; have f4_ := f1_.symm; have f5_ := f3_.symm; clear f1_ f2_ f3_; subst f4_; subst f5_))
      refine start_ (n := 12) (S := fun w' => w'.cell? ⟨gb277, 0, none⟩ = some (.slice Ao24 x278000_1.length co24) ∧ w'.cell? ⟨gb277, 1, none⟩ = some (.int .i64 x278001_1) ∧ w'.cell? ⟨gb277, 2, none⟩ = some (.int .i64 x278002_1) ∧ w'.cell? ⟨gb277, 3, none⟩ = some (.string x278003_1) ∧ w'.cell? ⟨gb279, 0, none⟩ = some (.int .i64 x280000_1) ∧ w'.cell? ⟨gb279, 1, none⟩ = some (u280001)) (ds := []) (bz 12 0) (by kernel_rfl) rfl (by kernel_rfl) ⟨(blk_cell BK277.out 0).trans rfl, (blk_cell BK277.out 1).trans rfl, (blk_cell BK277.out 2).trans rfl, (blk_cell BK277.out 3).trans rfl, (blk_cell BK279.out 0).trans rfl, (blk_cell BK279.out 1).trans rfl⟩ (fun hHeld => ?_); refine with_tabW spec_l6Draw.tab6 spec_l6Draw.bits6 (fun HT_ HW_ => ?_)
      generalize wr.drew = w23 at HO_278000 HO_280001 BK268 BK277 BK279 HI0 HK HB hHeld ⊢
      refine (pu 0 (some 18) 1 ?_ ?_ HT_ ?_ ?_ ?_ (pu 3 (some 21) 9 ?_ ?_ HT_ ?_ ?_ ?_ (tk 1 (some 19) 11 ?_ ?_ HT_ HW_ hHeld ?_ ?_ ?_ (tk 4 (some 22) 27 ?_ ?_ HT_ HW_ hHeld ?_ ?_ ?_ ?_))))
      all_goals first | (rintro w' ⟨s0, s1, s2, s3, s4, s5⟩; go_simp; with_reducible rfl) | (intro w'; go_simp; with_reducible rfl) | (simp only [u6_]; rfl) | rfl | skip
      refine one_ (i := 2) (N := some 20) (bz 12 31) rfl rfl (one_of HT_.out (by kernel_rfl)) (by decide) (fun K hK => ?_)
      refine goes_ Try.func42 (by kernel_rfl) rfl #[.slice Ao24 x278000_1.length co24] (by rfl) rfl rfl mp ?_
      with_reducible refine (spec_Finger.calls k1 _ _ x278000_1 t283 _ ?side1 ?side2 A21.out).mono ?_
      (case side1 => exact cA ((Kd.R_reads' HO_278000.out).2.2))
      (case side2 => exact (Kd.R_reads' HO_278000.out).2.1)
      rintro e w25 ⟨rfl, hb⟩
      refine ⟨_, rfl, ?_⟩
      replace HO_278000 := rb HO_278000 hb
      replace HO_280001 := aM (Kd.S_below (sS HO_280001.out) hb)
      replace BK268 := bb BK268 hb
      replace BK277 := bb BK277 hb
      replace BK279 := bb BK279 hb
      replace HK := aM (KeepBut.trans (kw HK) (KeepBut.of_below hb g none) (.inl rfl))
      replace HB := aM (below_step (bw HB) hb)
      replace HI0 := aM (IsS67.below (iw HI0) hb)
      (try clear hb)
      (try clear hb2)
      (try clear hk)
      (try clear hi)
      obtain ⟨Ao26, co26, eo26⟩ := Kd.S_slice HO_280001.out
      (first | subst eo26 | (injection eo26 with f1_ f2_ f3_; have f4_ := f1_.symm; have f5_ := f3_.symm; clear f1_ f2_ f3_; subst f4_; subst f5_))
      refine hK.out _ _ ⟨(blk_cell BK277.out 0).trans rfl, (blk_cell BK277.out 1).trans rfl, (blk_cell BK277.out 2).trans rfl, (blk_cell BK277.out 3).trans rfl, (blk_cell BK279.out 0).trans rfl, (blk_cell BK279.out 1).trans rfl⟩ (fun hHeld => ?_)
      clear hK K
      refine norm_ (a' := ?_) ?_ ?_
      rotate_left
      ·show Act.put _ (some 20) _ = _
       simp only [u6_]
       rfl
      refine (pu 5 (some 23) 63 ?_ ?_ HT_ ?_ ?_ ?_ (pu 6 (some 24) 127 ?_ ?_ HT_ ?_ ?_ ?_ (pu 7 (some 25) 255 ?_ ?_ HT_ ?_ ?_ ?_ (tk 8 (some 26) 511 ?_ ?_ HT_ HW_ hHeld ?_ ?_ ?_ (pu 9 (some 27) 1023 ?_ ?_ HT_ ?_ ?_ ?_ (pu 10 (some 28) 2047 ?_ ?_ HT_ ?_ ?_ ?_ (pu 11 (some 29) 4095 ?_ ?_ HT_ ?_ ?_ ?_ ?_)))))))
      all_goals first | (rintro w' ⟨s0, s1, s2, s3, s4, s5⟩; go_simp; with_reducible rfl) | (intro w'; go_simp; with_reducible rfl) | (simp only [u6_]; rfl) | rfl | skip
      refine done_ (done_of HT_.out (by kernel_rfl)) ?_
      try go_wp2
      go_meet
      case rel => exact ⟨_, (decide ((x280001_1.length : Int) < 4)), rs_, H', ⟨by have := HK1.out; first | omega | exact Nat.le_refl _⟩, ⟨by (with_reducible repeat (first | apply aR1 | apply aR2 | apply aR3)); exact HO_278000.out⟩, ⟨by (with_reducible repeat (first | apply Kd.S_alloc | apply Kd.S_drewN | apply Kd.S_drew)); exact HO_280001.out⟩, ⟨by exact aB BK268⟩, ⟨by exact aB BK277⟩, ⟨by exact aB BK279⟩, ⟨(iw HI0)⟩, ⟨(kw HK)⟩, ⟨(bw HB)⟩⟩
     ·rw [if_neg c22] at H
      have c22b0 : (t283 == x280000_1) = false := beq_eq_false_iff_ne.mpr c22
      have c22b1 : (t283 != x280000_1) = true := bne_iff_ne.mpr c22
      (first | rw [c22b0] | (simp only [i64_w, i32_w]; rw [c22b0]) | skip)
      have H' := aM H
      clear H
      try go_wp2
      replace HO_278000 := aM (Kd.R_drew HO_278000.out)
      replace HO_280001 := aM (Kd.S_drew HO_280001.out)
      replace BK268 := aM (blk_drew BK268.out)
      replace BK277 := aM (blk_drew BK277.out)
      replace BK279 := aM (blk_drew BK279.out)
      replace HI0 := aM (IsS67.drew HI0.out)
      replace HK := aM (keep_drew HK.out)
      replace HB := aM (below_drew1 HB.out)
      obtain ⟨Ao28, co28, eo28⟩ := Kd.R_slice HO_278000.out
      (first | subst eo28 | (injection eo28 with f1_ f2_ f3_; have f4_ := f1_.symm; have f5_ := f3_.symm; clear f1_ f2_ f3_; subst f4_; subst f5_))
      refine start_ (n := 12) (S := fun w' => w'.cell? ⟨gb277, 0, none⟩ = some (.slice Ao28 x278000_1.length co28) ∧ w'.cell? ⟨gb277, 1, none⟩ = some (.int .i64 x278001_1) ∧ w'.cell? ⟨gb277, 2, none⟩ = some (.int .i64 x278002_1) ∧ w'.cell? ⟨gb277, 3, none⟩ = some (.string x278003_1) ∧ w'.cell? ⟨gb279, 0, none⟩ = some (.int .i64 x280000_1) ∧ w'.cell? ⟨gb279, 1, none⟩ = some (u280001)) (ds := []) (bz 12 0) (by kernel_rfl) rfl (by kernel_rfl) ⟨(blk_cell BK277.out 0).trans rfl, (blk_cell BK277.out 1).trans rfl, (blk_cell BK277.out 2).trans rfl, (blk_cell BK277.out 3).trans rfl, (blk_cell BK279.out 0).trans rfl, (blk_cell BK279.out 1).trans rfl⟩ (fun hHeld => ?_); refine with_tabW spec_l6Draw.tab6 spec_l6Draw.bits6 (fun HT_ HW_ => ?_)
      generalize wr.drew = w27 at HO_278000 HO_280001 BK268 BK277 BK279 HI0 HK HB hHeld ⊢
      refine (pu 0 (some 18) 1 ?_ ?_ HT_ ?_ ?_ ?_ (pu 3 (some 21) 9 ?_ ?_ HT_ ?_ ?_ ?_ (tk 1 (some 19) 11 ?_ ?_ HT_ HW_ hHeld ?_ ?_ ?_ (tk 4 (some 22) 27 ?_ ?_ HT_ HW_ hHeld ?_ ?_ ?_ ?_))))
      all_goals first | (rintro w' ⟨s0, s1, s2, s3, s4, s5⟩; go_simp; with_reducible rfl) | (intro w'; go_simp; with_reducible rfl) | (simp only [u6_]; rfl) | rfl | skip
      refine one_ (i := 2) (N := some 20) (bz 12 31) rfl rfl (one_of HT_.out (by kernel_rfl)) (by decide) (fun K hK => ?_)
      refine goes_ Try.func42 (by kernel_rfl) rfl #[.slice Ao28 x278000_1.length co28] (by rfl) rfl rfl mp ?_
      with_reducible refine (spec_Finger.calls k1 _ _ x278000_1 t283 _ ?side1 ?side2 A21.out).mono ?_
      (case side1 => exact cA ((Kd.R_reads' HO_278000.out).2.2))
      (case side2 => exact (Kd.R_reads' HO_278000.out).2.1)
      rintro e w29 ⟨rfl, hb⟩
      refine ⟨_, rfl, ?_⟩
      replace HO_278000 := rb HO_278000 hb
      replace HO_280001 := aM (Kd.S_below (sS HO_280001.out) hb)
      replace BK268 := bb BK268 hb
      replace BK277 := bb BK277 hb
      replace BK279 := bb BK279 hb
      replace HK := aM (KeepBut.trans (kw HK) (KeepBut.of_below hb g none) (.inl rfl))
      replace HB := aM (below_step (bw HB) hb)
      replace HI0 := aM (IsS67.below (iw HI0) hb)
      (try clear hb)
      (try clear hb2)
      (try clear hk)
      (try clear hi)
      refine hK.out _ _ ⟨(blk_cell BK277.out 0).trans rfl, (blk_cell BK277.out 1).trans rfl, (blk_cell BK277.out 2).trans rfl, (blk_cell BK277.out 3).trans rfl, (blk_cell BK279.out 0).trans rfl, (blk_cell BK279.out 1).trans rfl⟩ (fun hHeld => ?_)
      clear hK K
      refine norm_ (a' := ?_) ?_ ?_
      rotate_left
      ·show Act.put _ (some 20) _ = _
       simp only [u6_]
       rfl
      refine (pu 5 (some 23) 63 ?_ ?_ HT_ ?_ ?_ ?_ (pu 6 (some 24) 127 ?_ ?_ HT_ ?_ ?_ ?_ (po 7 (some 25) 255 ?_ HT_ ?_ ?_ (po 8 (some 26) 511 ?_ HT_ ?_ ?_ (po 9 (some 27) 1023 ?_ HT_ ?_ ?_ (po 10 (some 28) 2047 ?_ HT_ ?_ ?_ (pu 11 (some 29) 4095 ?_ ?_ HT_ ?_ ?_ ?_ ?_)))))))
      all_goals first | (intro w'; go_simp; with_reducible rfl) | (simp only [u6_]; rfl) | rfl | skip
      refine done_ (done_of HT_.out (by kernel_rfl)) ?_
      try go_wp2
      go_meet
      case rel => exact ⟨_, (false), rs_, H', ⟨by have := HK1.out; first | omega | exact Nat.le_refl _⟩, ⟨by (with_reducible repeat (first | apply aR1 | apply aR2 | apply aR3)); exact HO_278000.out⟩, ⟨by (with_reducible repeat (first | apply Kd.S_alloc | apply Kd.S_drewN | apply Kd.S_drew)); exact HO_280001.out⟩, ⟨by exact aB BK268⟩, ⟨by exact aB BK277⟩, ⟨by exact aB BK279⟩, ⟨(iw HI0)⟩, ⟨(kw HK)⟩, ⟨(bw HB)⟩⟩
    case rest =>
     clear HC20
     try clear c1
     try clear c2
     try clear p2
     try clear c4
     try clear c9
     try clear c10
     try clear c14
     try clear c15
     try clear c16
     try clear c19
     try clear c19b0
     try clear c22
     try clear c22b0
     try clear c22b1
     try clear c25
     try clear c27
     try clear hcz11_0
     try clear hcz11_1
     try clear hcz11_2
     try clear hcz11_3
     try clear hcz17_0
     try clear hcz17_1
     try clear hfz11_0
     try clear hfz11_1
     try clear hfz11_2
     try clear hfz11_3
     try clear hfz17_0
     try clear hfz17_1
     try clear p2
     obtain ⟨kq, x29_19, rfl, HA, HJ19, HO_278000, HO_280001, BK268, BK277, BK279, HI0, HK, HB⟩ := hcut
     cases kq with
     | zero => exact absurd HA.out (by simp [spec_l6Draw.j1])
     | succ kj19 =>
      have H := HA.out
      clear HA
      simp only [spec_l6Draw.j1] at H
      by_cases c30 : x29_19 = true
      ·subst c30
       have H1 : ((spec_PutChain.f kj19 x280000_1 x280001_1 x278000_1 x278001_1 x278002_1 x278003_1).bind fun bt284 => ((spec_l4Draw.f kj19 s0_0 x1001_1 x1002_1).bind fun bt289 => (spec_l6Draw.l0 kj19 (wrap64 (x5_1 - 1)) s0_0 bt289.2.2.2.2.1 bt289.2.2.2.2.2 bt289.1 bt289.2.1 bt289.2.2.1 bt289.2.2.2.1 bt284.1 bt284.2.1))) = some (r1, r2, r3, r4) := by rw [if_pos rfl] at H; exact H
       clear H
       have H := H1
       clear H1; replace H := bs_ H
       obtain ⟨⟨t284, t285, t288⟩, A310, H⟩ := H
       try dsimp only at H
       have A31 := aM A310
       clear A310; replace H := bs_ H
       obtain ⟨⟨t289, t292, t293, t294, t295, t296⟩, A320, H⟩ := H
       try dsimp only at H
       have A32 := aM A320
       clear A320
       have H' := aM H
       clear H; have hnb33 := NB279_268.out; have hnc33 := NB268_279.out; have hnb34 := NB279_277.out; have hnc34 := NB277_279.out; have hnb35 := NB279_0.out; have hnc35 := NB0_279.out; obtain ⟨hcz36_0, hcz36_1⟩ := zc2 BK279; have hfz36_0 := zf BK279; have hnb37 := NB277_268.out; have hnc37 := NB268_277.out; have hnb38 := NB277_0.out; have hnc38 := NB0_277.out; obtain ⟨hcz39_0, hcz39_1, hcz39_2, hcz39_3⟩ := zc4 BK277; have hfz39_0 := zf BK277
       obtain ⟨Ao40, co40, eo40⟩ := Kd.S_slice HO_280001.out
       subst eo40
       obtain ⟨Ao41, co41, eo41⟩ := Kd.R_slice HO_278000.out
       subst eo41
       go_wp2_with (first | (refine gl_ (some 33) Try.func7 #[.agg #[.int .i64 x280000_1, .slice Ao40 x280001_1.length co40], .agg #[.slice Ao41 x278000_1.length co41, .int .i64 x278001_1, .int .i64 x278002_1, .string x278003_1]] ?_; (with_reducible refine (spec_PutChain.calls kj19 x280000_1 _ _ x280001_1 _ _ x278000_1 x278001_1 x278002_1 x278003_1 t284 t285 t288 _ ?side1 ?side2 ?side3 ?side4 A31.out).mono ?_); (case side1 => exact cA ((Kd.S_reads' HO_280001.out).2.2)); (case side2 => exact (Kd.S_reads' HO_280001.out).2.1); (case side3 => exact cA ((Kd.R_reads' HO_278000.out).2.2)); (case side4 => exact (Kd.R_reads' HO_278000.out).2.1); rintro e w42 ⟨v286, rfl, ho0, hb⟩; refine ⟨_, rfl, ?_⟩; have HO287 := aM (Kd.S_lower (Kd.S_newB (Kd.S_new' (Kd.S_new' ho0 (Kd.R_lt (aR HO_278000))) (Kd.S_lt (sS HO_280001.out))) (g := gb277) (aB BK277)) (keep_size (w := w) (g := g) (row := none) (kw HK))); replace HO_278000 := rb HO_278000 hb; replace HO_280001 := aM (Kd.S_elder' (sS HO_280001.out) (Kd.S_base ho0) hb); replace BK268 := bb BK268 hb; replace BK277 := bb BK277 hb; replace BK279 := bb BK279 hb; replace HK := aM (KeepBut.trans (kw HK) (KeepBut.of_below hb g none) (.inl rfl)); replace HB := aM (below_step (bw HB) hb); replace HI0 := aM (IsS67.below (iw HI0) hb); (try clear hb); (try clear hb2); (try clear hk); (try clear hi); (try clear ho0); obtain ⟨hcz43_0, hcz43_1⟩ := zc2 BK279; have hfz43_0 := zf BK279; obtain ⟨Ao44, co44, eo44⟩ := Kd.S_slice HO287.out; subst eo44) | (refine gl_ (some 37) Try.func25 #[.pointer (some ⟨g, 0, none⟩)] ?_; (with_reducible refine (spec_l4Draw.calls kj19 g s0_0 x1001_1 x1002_1 t289 t292 t293 t294 t295 t296 w0 _ ?side1 ?side2 A32.out).mono ?_); (case side1 => exact iw HI0); (case side2 => exact bw HB); rintro e w45 ⟨v290, rfl, ho0, hi, hb, hk⟩; refine ⟨_, rfl, ?_⟩; replace HO_280001 := aM (Kd.S_mono (Kd.S_told (Kd.S_oldK (IsS67.apartS (show IsS67 w0 _ g s0_0 x1001_1 x1002_1 from (iw HI0)) (by (with_reducible repeat (first | apply Kd.S_alloc | apply Kd.S_drewN | apply Kd.S_drew)); exact (Kd.S_mono (Kd.S_far (p := ⟨gb279, 1, none⟩) (Kd.S_far (p := ⟨gb279, 0, none⟩) (Kd.S_types HO_280001.out BK279.out (by decide)) (fun _ hk => hk.2) (.int .i64 t284)) (fun _ hk => hk.2) (.slice Ao44 t285.length co44)) (fun _ h_ => h_.1))) (by decide)) hk) (Kd.R_base ho0)) (fun _ h_ => h_.1)); replace BK268 := aM (KeepBut.blk hk (g' := gb268) (o := .cells #[.int .i64 0, .slice none 0 0] 26 (0, 0)) (by refine blk_far ?_ NB268_279.out _; refine blk_far ?_ NB268_279.out _; exact aB BK268) NB268_0.out (by simp)); replace BK277 := aM (KeepBut.blk hk (g' := gb277) (o := .cells #[.slice Ao41 x278000_1.length co41, .int .i64 x278001_1, .int .i64 x278002_1, .string x278003_1] 29 (0, 0)) (by refine blk_far ?_ NB277_279.out _; refine blk_far ?_ NB277_279.out _; exact aB BK277) NB277_0.out (by simp)); replace HO287 := aM (Kd.S_mono (Kd.S_told (Kd.S_oldK (IsS67.apartS (show IsS67 w0 _ g s0_0 x1001_1 x1002_1 from (iw HI0)) (by (with_reducible repeat (first | apply Kd.S_alloc | apply Kd.S_drewN | apply Kd.S_drew)); exact (Kd.S_mono (Kd.S_far (p := ⟨gb279, 1, none⟩) (Kd.S_far (p := ⟨gb279, 0, none⟩) (Kd.S_types HO287.out BK279.out (by decide)) (fun _ hk => hk.2) (.int .i64 t284)) (fun _ hk => hk.2) (.slice Ao44 t285.length co44)) (fun _ h_ => h_.1))) (by decide)) hk) (Kd.R_base ho0)) (fun _ h_ => h_.1)); have HO291 := aM (Kd.R_lower (Kd.R_new' ho0 (Kd.R_lt (by (with_reducible repeat (first | apply aR1 | apply aR2 | apply aR3)); exact (Kd.R_mono (Kd.R_far (p := ⟨gb279, 1, none⟩) (Kd.R_far (p := ⟨gb279, 0, none⟩) (Kd.R_types HO_278000.out BK279.out (by decide)) (fun _ hk => hk.2) (.int .i64 t284)) (fun _ hk => hk.2) (.slice Ao44 t285.length co44)) (fun _ h_ => h_.1))))) (keep_size (w := w) (g := g) (row := none) (kw HK))); replace HO_278000 := aM (Kd.R_mono (Kd.R_told (Kd.R_oldK (IsS67.apart (show IsS67 w0 _ g s0_0 x1001_1 x1002_1 from (iw HI0)) (by (with_reducible repeat (first | apply aR1 | apply aR2 | apply aR3)); exact (Kd.R_mono (Kd.R_far (p := ⟨gb279, 1, none⟩) (Kd.R_far (p := ⟨gb279, 0, none⟩) (Kd.R_types HO_278000.out BK279.out (by decide)) (fun _ hk => hk.2) (.int .i64 t284)) (fun _ hk => hk.2) (.slice Ao44 t285.length co44)) (fun _ h_ => h_.1))) (by decide)) hk) (Kd.R_base ho0)) (fun _ h_ => h_.1)); replace BK279 := aM (KeepBut.blk hk (g' := gb279) (o := .cells #[.int .i64 t284, .slice Ao44 t285.length co44] 26 (0, 0)) (by refine blk_put (cs := #[.int .i64 t284, .slice Ao40 x280001_1.length co40]) ?_ 1 _ rfl; refine blk_put (cs := #[.int .i64 x280000_1, .slice Ao40 x280001_1.length co40]) ?_ 0 _ rfl; exact aB BK279) NB279_0.out (by simp)); replace HK := aM (KeepBut.trans (kw HK) hk (.inl rfl)); replace HB := aM (hb); replace HI0 := aM (hi); (try clear hb); (try clear hb2); (try clear hk); (try clear hi); (try clear ho0); obtain ⟨Ao46, co46, eo46⟩ := Kd.R_slice HO291.out; subst eo46; obtain ⟨hcz47_0, hcz47_1, hcz47_2, hcz47_3⟩ := zc4 BK277; have hfz47_0 := zf BK277))
       go_roundg kj19
       case measure => have := HK1.out; have := HJ19.out; omega
       case rel => exact ⟨(wrap64 (x5_1 - 1)), (t295), (t296), (t289), (t292), (t293), (t294), (t284), (t285), (.slice Ao46 t289.length co46), (.slice Ao44 t285.length co44), rs_, H', ⟨by have := HK1.out; have := HJ19.out; omega⟩, ⟨by (with_reducible repeat (first | apply aR1 | apply aR2 | apply aR3)); exact Kd.R_mono (Kd.R_far (p := ⟨gb277, 3, none⟩) (Kd.R_far (p := ⟨gb277, 2, none⟩) (Kd.R_far (p := ⟨gb277, 1, none⟩) (Kd.R_far (p := ⟨gb277, 0, none⟩) (Kd.R_types HO291.out BK277.out (by decide)) (fun _ hk => hk.2) (.slice Ao46 t289.length co46)) (fun _ hk => hk.2) (.int .i64 t292)) (fun _ hk => hk.2) (.int .i64 t293)) (fun _ hk => hk.2) (.string t294)) (fun _ hk => trivial)⟩, ⟨by (with_reducible repeat (first | apply Kd.S_alloc | apply Kd.S_drewN | apply Kd.S_drew)); exact Kd.S_mono (Kd.S_far (p := ⟨gb277, 3, none⟩) (Kd.S_far (p := ⟨gb277, 2, none⟩) (Kd.S_far (p := ⟨gb277, 1, none⟩) (Kd.S_far (p := ⟨gb277, 0, none⟩) (Kd.S_mono HO287.out (fun k_ hk => (⟨hk, hk.1.2⟩ : _ ∧ k_ ≠ gb277))) (fun _ hk => hk.2) (.slice Ao46 t289.length co46)) (fun _ hk => hk.2) (.int .i64 t292)) (fun _ hk => hk.2) (.int .i64 t293)) (fun _ hk => hk.2) (.string t294)) (fun _ hk => ⟨hk.1.2, hk.1.1.2⟩)⟩, ⟨by refine blk_far ?_ NB268_277.out _; refine blk_far ?_ NB268_277.out _; refine blk_far ?_ NB268_277.out _; refine blk_far ?_ NB268_277.out _; exact aB BK268⟩, ⟨by refine blk_put (cs := #[.slice Ao46 t289.length co46, .int .i64 t292, .int .i64 t293, .string x278003_1]) ?_ 3 _ rfl; refine blk_put (cs := #[.slice Ao46 t289.length co46, .int .i64 t292, .int .i64 x278002_1, .string x278003_1]) ?_ 2 _ rfl; refine blk_put (cs := #[.slice Ao46 t289.length co46, .int .i64 x278001_1, .int .i64 x278002_1, .string x278003_1]) ?_ 1 _ rfl; refine blk_put (cs := #[.slice Ao41 x278000_1.length co41, .int .i64 x278001_1, .int .i64 x278002_1, .string x278003_1]) ?_ 0 _ rfl; exact aB BK277⟩, ⟨by refine blk_far ?_ NB279_277.out _; refine blk_far ?_ NB279_277.out _; refine blk_far ?_ NB279_277.out _; refine blk_far ?_ NB279_277.out _; exact aB BK279⟩, ⟨(iw HI0)⟩, ⟨(kw HK)⟩, ⟨(bw HB)⟩⟩
      ·replace c30 := Bool.eq_false_iff.mpr c30
       subst c30
       have H1 : ((spec_l4Draw.f kj19 s0_0 x1001_1 x1002_1).bind fun bt297 => (spec_l6Draw.l0 kj19 (wrap64 (x5_1 - 1)) s0_0 bt297.2.2.2.2.1 bt297.2.2.2.2.2 bt297.1 bt297.2.1 bt297.2.2.1 bt297.2.2.2.1 x280000_1 x280001_1)) = some (r1, r2, r3, r4) := by rw [if_neg (show ¬ (false = true) by decide)] at H; exact H
       clear H
       have H := H1
       clear H1; replace H := bs_ H
       obtain ⟨⟨t297, t300, t301, t302, t303, t304⟩, A480, H⟩ := H
       try dsimp only at H
       have A48 := aM A480
       clear A480
       have H' := aM H
       clear H
       go_wp2_with (first | (refine gl_ (some 37) Try.func25 #[.pointer (some ⟨g, 0, none⟩)] ?_; (with_reducible refine (spec_l4Draw.calls kj19 g s0_0 x1001_1 x1002_1 t297 t300 t301 t302 t303 t304 w0 _ ?side1 ?side2 A48.out).mono ?_); (case side1 => exact iw HI0); (case side2 => exact bw HB); rintro e w49 ⟨v298, rfl, ho0, hi, hb, hk⟩; refine ⟨_, rfl, ?_⟩; replace HO_280001 := aM (Kd.S_mono (Kd.S_told (Kd.S_oldK (IsS67.apartS (show IsS67 w0 _ g s0_0 x1001_1 x1002_1 from (iw HI0)) (sS HO_280001.out) (by decide)) hk) (Kd.R_base ho0)) (fun _ h_ => h_.1)); replace BK268 := aM (KeepBut.blk hk (g' := gb268) (aB BK268) NB268_0.out (by simp)); replace BK277 := aM (KeepBut.blk hk (g' := gb277) (aB BK277) NB277_0.out (by simp)); replace BK279 := aM (KeepBut.blk hk (g' := gb279) (aB BK279) NB279_0.out (by simp)); have HO299 := aM (Kd.R_lower (Kd.R_new' ho0 (Kd.R_lt (aR HO_278000))) (keep_size (w := w) (g := g) (row := none) (kw HK))); replace HO_278000 := aM (Kd.R_mono (Kd.R_told (Kd.R_oldK (IsS67.apart (show IsS67 w0 _ g s0_0 x1001_1 x1002_1 from (iw HI0)) (aR HO_278000) (by decide)) hk) (Kd.R_base ho0)) (fun _ h_ => h_.1)); replace HK := aM (KeepBut.trans (kw HK) hk (.inl rfl)); replace HB := aM (hb); replace HI0 := aM (hi); (try clear hb); (try clear hb2); (try clear hk); (try clear hi); (try clear ho0); obtain ⟨Ao50, co50, eo50⟩ := Kd.R_slice HO299.out; subst eo50; have hnb51 := NB277_268.out; have hnc51 := NB268_277.out; have hnb52 := NB277_279.out; have hnc52 := NB279_277.out; have hnb53 := NB277_0.out; have hnc53 := NB0_277.out; obtain ⟨hcz54_0, hcz54_1, hcz54_2, hcz54_3⟩ := zc4 BK277; have hfz54_0 := zf BK277))
       go_roundg kj19
       case measure => have := HK1.out; have := HJ19.out; omega
       case rel => exact ⟨(wrap64 (x5_1 - 1)), (t303), (t304), (t297), (t300), (t301), (t302), (x280000_1), (x280001_1), (.slice Ao50 t297.length co50), (u280001), rs_, H', ⟨by have := HK1.out; have := HJ19.out; omega⟩, ⟨by (with_reducible repeat (first | apply aR1 | apply aR2 | apply aR3)); exact Kd.R_mono (Kd.R_far (p := ⟨gb277, 3, none⟩) (Kd.R_far (p := ⟨gb277, 2, none⟩) (Kd.R_far (p := ⟨gb277, 1, none⟩) (Kd.R_far (p := ⟨gb277, 0, none⟩) (Kd.R_types HO299.out BK277.out (by decide)) (fun _ hk => hk.2) (.slice Ao50 t297.length co50)) (fun _ hk => hk.2) (.int .i64 t300)) (fun _ hk => hk.2) (.int .i64 t301)) (fun _ hk => hk.2) (.string t302)) (fun _ hk => trivial)⟩, ⟨by (with_reducible repeat (first | apply Kd.S_alloc | apply Kd.S_drewN | apply Kd.S_drew)); exact Kd.S_mono (Kd.S_far (p := ⟨gb277, 3, none⟩) (Kd.S_far (p := ⟨gb277, 2, none⟩) (Kd.S_far (p := ⟨gb277, 1, none⟩) (Kd.S_far (p := ⟨gb277, 0, none⟩) (Kd.S_mono HO_280001.out (fun k_ hk => (⟨hk, hk.1.2⟩ : _ ∧ k_ ≠ gb277))) (fun _ hk => hk.2) (.slice Ao50 t297.length co50)) (fun _ hk => hk.2) (.int .i64 t300)) (fun _ hk => hk.2) (.int .i64 t301)) (fun _ hk => hk.2) (.string t302)) (fun _ hk => ⟨hk.1.2, hk.1.1.2⟩)⟩, ⟨by refine blk_far ?_ NB268_277.out _; refine blk_far ?_ NB268_277.out _; refine blk_far ?_ NB268_277.out _; refine blk_far ?_ NB268_277.out _; exact aB BK268⟩, ⟨by refine blk_put (cs := #[.slice Ao50 t297.length co50, .int .i64 t300, .int .i64 t301, .string x278003_1]) ?_ 3 _ rfl; refine blk_put (cs := #[.slice Ao50 t297.length co50, .int .i64 t300, .int .i64 x278002_1, .string x278003_1]) ?_ 2 _ rfl; refine blk_put (cs := #[.slice Ao50 t297.length co50, .int .i64 x278001_1, .int .i64 x278002_1, .string x278003_1]) ?_ 1 _ rfl; refine blk_put (cs := #[u278000, .int .i64 x278001_1, .int .i64 x278002_1, .string x278003_1]) ?_ 0 _ rfl; exact aB BK277⟩, ⟨by refine blk_far ?_ NB279_277.out _; refine blk_far ?_ NB279_277.out _; refine blk_far ?_ NB279_277.out _; refine blk_far ?_ NB279_277.out _; exact aB BK279⟩, ⟨(iw HI0)⟩, ⟨(kw HK)⟩, ⟨(bw HB)⟩⟩
   ·rw [if_neg c19] at H; have c19b0 : decide (0 ≤ x5_1) = false := decide_eq_false c19; clear c19
    simp only [Option.some.injEq, Prod.mk.injEq] at H
    obtain ⟨rfl, rfl, rfl, rfl⟩ := H
    have hnb55 := NB279_268.out; have hnc55 := NB268_279.out; have hnb56 := NB279_277.out; have hnc56 := NB277_279.out; have hnb57 := NB279_0.out; have hnc57 := NB0_279.out; obtain ⟨hcz58_0, hcz58_1⟩ := zc2 BK279; have hfz58_0 := zf BK279; have hnb59 := NB268_277.out; have hnc59 := NB277_268.out; have hnb60 := NB268_0.out; have hnc60 := NB0_268.out; obtain ⟨hcz61_0, hcz61_1⟩ := zc2 BK268; have hfz61_0 := zf BK268
    obtain ⟨Ao62, co62, eo62⟩ := Kd.S_slice HO_280001.out
    subst eo62
    go_wp2
    refine bodyPost_ret (results_cell_row rfl _ _ gb268 26 #[.int .i64 x280000_1, .slice Ao62 x280001_1.length co62] (0, 0) _ rfl (by refine blk_put (cs := #[.int .i64 x280000_1, .slice none 0 0]) ?_ 1 _ rfl; refine blk_put (cs := #[.int .i64 0, .slice none 0 0]) ?_ 0 _ rfl; exact aB BK268) Try.underlying26 rfl (by kernel_rfl)) rfl ?_
    exact ⟨_, er, by (with_reducible repeat (first | apply Kd.S_alloc | apply Kd.S_drewN | apply Kd.S_drew)); exact Kd.S_mono (Kd.S_far (p := ⟨gb268, 1, none⟩) (Kd.S_far (p := ⟨gb268, 0, none⟩) (Kd.S_types HO_280001.out BK268.out (by decide)) (fun _ hk => hk.2) (.int .i64 x280000_1)) (fun _ hk => hk.2) (.slice Ao62 x280001_1.length co62)) (fun _ hk => trivial), (iw HI0), (bw HB), (kw HK)⟩

/-! ### spec_l1AnyPlain: function 71 -/
def spec_l1AnyPlain.f (s0_0 : List Int) (s0_1 : Int) (s0_2 : Int) : Option (ByteArray × Int × Int) := (spec_l1Once.f s0_0 s0_1 s0_2 2).bind fun bt305 => (if bt305.1 = true then ((spec_l1Plain.f s0_0 bt305.2.1 bt305.2.2).bind fun bt308 => (some (bt308.1, bt308.2.1, bt308.2.2))) else ((spec_l1Str.f s0_0 bt305.2.1 bt305.2.2 (([(⟨#[34]⟩ : ByteArray), (⟨#[92]⟩ : ByteArray), (⟨#[127]⟩ : ByteArray), (⟨#[31]⟩ : ByteArray), (⟨#[116, 119, 101, 108, 118, 101, 32, 98, 121, 116, 101, 115]⟩ : ByteArray), (⟨#[116, 104, 105, 114, 116, 101, 101, 110, 98, 121, 116, 101, 115]⟩ : ByteArray), (⟨#[126]⟩ : ByteArray), (⟨#[125]⟩ : ByteArray), (⟨#[44, 32, 98, 61]⟩ : ByteArray), (⟨#[125, 32, 49, 45, 50]⟩ : ByteArray)] : List ByteArray))).bind fun bt314 => (some (bt314.1, bt314.2.1, bt314.2.2))))
theorem spec_l1AnyPlain.calls (g : Nat) (s0_0 : List Int) (s0_1 : Int) (s0_2 : Int) (r1 : ByteArray) (r2 : Int) (r3 : Int) (w0 w : World) (hI : IsS67 w0 w g s0_0 s0_1 s0_2) (hB : Below w0.heap.size w0 w) (h : spec_l1AnyPlain.f s0_0 s0_1 s0_2 = some (r1, r2, r3)) :
  Calls Try.prog 71 #[.pointer (some ⟨g, 0, none⟩)] w fun e w' => e = .returned (.string r1) ∧ IsS67 w0 w' g s0_0 r2 r3 ∧ Below w0.heap.size w0 w' ∧ KeepBut w w' g none := by
 have HI0 := aM hI
 have HK := aM (KeepBut.refl w g none)
 have HL := aM hB.size
 clear hI
 have HW0 := aM hB.size
 have HB := aM hB
 clear hB
 have H : ((spec_l1Once.f s0_0 s0_1 s0_2 2).bind fun bt305 => (if bt305.1 = true then ((spec_l1Plain.f s0_0 bt305.2.1 bt305.2.2).bind fun bt308 => (some (bt308.1, bt308.2.1, bt308.2.2))) else ((spec_l1Str.f s0_0 bt305.2.1 bt305.2.2 (([(⟨#[34]⟩ : ByteArray), (⟨#[92]⟩ : ByteArray), (⟨#[127]⟩ : ByteArray), (⟨#[31]⟩ : ByteArray), (⟨#[116, 119, 101, 108, 118, 101, 32, 98, 121, 116, 101, 115]⟩ : ByteArray), (⟨#[116, 104, 105, 114, 116, 101, 101, 110, 98, 121, 116, 101, 115]⟩ : ByteArray), (⟨#[126]⟩ : ByteArray), (⟨#[125]⟩ : ByteArray), (⟨#[44, 32, 98, 61]⟩ : ByteArray), (⟨#[125, 32, 49, 45, 50]⟩ : ByteArray)] : List ByteArray))).bind fun bt314 => (some (bt314.1, bt314.2.1, bt314.2.2))))) = some (r1, r2, r3) := h
 clear h; replace H := bs_ H
 obtain ⟨⟨t305, t306, t307⟩, A20, H⟩ := H
 try dsimp only at H
 have A2 := aM A20
 clear A20
 by_cases c3 : t305 = true
 ·subst c3
  have H1 : ((spec_l1Plain.f s0_0 t306 t307).bind fun bt308 => (some (bt308.1, bt308.2.1, bt308.2.2))) = some (r1, r2, r3) := by rw [if_pos rfl] at H; exact H
  clear H
  have H := H1
  clear H1; replace H := bs_ H
  obtain ⟨⟨t308, t309, t310⟩, A40, H⟩ := H
  try dsimp only at H
  have A4 := aM A40
  clear A40
  simp only [Option.some.injEq, Prod.mk.injEq] at H
  obtain ⟨rfl, rfl, rfl⟩ := H
  go_enter Try.func71, Try.ntmps71
  go_wp2_with (first | (refine gl_ (some 4) Try.func26 #[.pointer (some ⟨g, 0, none⟩), .int .i64 2] ?_; (with_reducible refine (spec_l1Once.calls g s0_0 s0_1 s0_2 2 true t306 t307 w0 _ ?side1 ?side2 A2.out).mono ?_); (case side1 => exact iw HI0); (case side2 => exact bw HB); rintro e w5 ⟨rfl, hi, hb, hk⟩; refine ⟨_, rfl, ?_⟩; replace HK := aM (KeepBut.trans (kw HK) hk (.inl rfl)); replace HB := aM (hb); replace HI0 := aM (hi); (try clear hb); (try clear hb2); (try clear hk); (try clear hi)) | (refine gl_ (some 6) Try.func50 #[.pointer (some ⟨g, 0, none⟩)] ?_; (with_reducible refine (spec_l1Plain.calls g s0_0 t306 t307 t308 t309 t310 w0 _ ?side1 ?side2 A4.out).mono ?_); (case side1 => exact iw HI0); (case side2 => exact bw HB); rintro e w6 ⟨rfl, hi, hb, hk⟩; refine ⟨_, rfl, ?_⟩; replace HK := aM (KeepBut.trans (kw HK) hk (.inl rfl)); replace HB := aM (hb); replace HI0 := aM (hi); (try clear hb); (try clear hb2); (try clear hk); (try clear hi)))
  go_ret
  exact ⟨er, (iw HI0), (bw HB), (kw HK)⟩
 ·replace c3 := Bool.eq_false_iff.mpr c3
  subst c3
  have H1 : ((spec_l1Str.f s0_0 t306 t307 (([(⟨#[34]⟩ : ByteArray), (⟨#[92]⟩ : ByteArray), (⟨#[127]⟩ : ByteArray), (⟨#[31]⟩ : ByteArray), (⟨#[116, 119, 101, 108, 118, 101, 32, 98, 121, 116, 101, 115]⟩ : ByteArray), (⟨#[116, 104, 105, 114, 116, 101, 101, 110, 98, 121, 116, 101, 115]⟩ : ByteArray), (⟨#[126]⟩ : ByteArray), (⟨#[125]⟩ : ByteArray), (⟨#[44, 32, 98, 61]⟩ : ByteArray), (⟨#[125, 32, 49, 45, 50]⟩ : ByteArray)] : List ByteArray))).bind fun bt314 => (some (bt314.1, bt314.2.1, bt314.2.2))) = some (r1, r2, r3) := by rw [if_neg (show ¬ (false = true) by decide)] at H; exact H
  clear H
  have H := H1
  clear H1
  obtain ⟨y311, hy311⟩ : ∃ y_ : List ByteArray, y_ = (([(⟨#[34]⟩ : ByteArray), (⟨#[92]⟩ : ByteArray), (⟨#[127]⟩ : ByteArray), (⟨#[31]⟩ : ByteArray), (⟨#[116, 119, 101, 108, 118, 101, 32, 98, 121, 116, 101, 115]⟩ : ByteArray), (⟨#[116, 104, 105, 114, 116, 101, 101, 110, 98, 121, 116, 101, 115]⟩ : ByteArray), (⟨#[126]⟩ : ByteArray), (⟨#[125]⟩ : ByteArray), (⟨#[44, 32, 98, 61]⟩ : ByteArray), (⟨#[125, 32, 49, 45, 50]⟩ : ByteArray)] : List ByteArray)) := ⟨_, rfl⟩
  replace H : ((spec_l1Str.f s0_0 t306 t307 y311).bind fun bt314 => (some (bt314.1, bt314.2.1, bt314.2.2))) = some (r1, r2, r3) := by first | (rw [hy311]; exact H) | exact H
  have Ny311 := aM hy311
  clear hy311; replace H := bs_ H
  obtain ⟨⟨t314, t315, t316⟩, A70, H⟩ := H
  try dsimp only at H
  have A7 := aM A70
  clear A70
  simp only [Option.some.injEq, Prod.mk.injEq] at H
  obtain ⟨rfl, rfl, rfl⟩ := H
  go_enter Try.func71, Try.ntmps71
  go_wp2_with (first | (refine gl_ (some 4) Try.func26 #[.pointer (some ⟨g, 0, none⟩), .int .i64 2] ?_; (with_reducible refine (spec_l1Once.calls g s0_0 s0_1 s0_2 2 false t306 t307 w0 _ ?side1 ?side2 A2.out).mono ?_); (case side1 => exact iw HI0); (case side2 => exact bw HB); rintro e w8 ⟨rfl, hi, hb, hk⟩; refine ⟨_, rfl, ?_⟩; replace HK := aM (KeepBut.trans (kw HK) hk (.inl rfl)); replace HB := aM (hb); replace HI0 := aM (hi); (try clear hb); (try clear hb2); (try clear hk); (try clear hi)) | ((with_reducible refine gate_dst (N := 8) rfl ?_); refine Kd.R_lit Kd.string _ 9 rfl (N := 8) rfl (xs := ([(⟨#[34]⟩ : ByteArray), (⟨#[92]⟩ : ByteArray), (⟨#[127]⟩ : ByteArray), (⟨#[31]⟩ : ByteArray), (⟨#[116, 119, 101, 108, 118, 101, 32, 98, 121, 116, 101, 115]⟩ : ByteArray), (⟨#[116, 104, 105, 114, 116, 101, 101, 110, 98, 121, 116, 101, 115]⟩ : ByteArray), (⟨#[126]⟩ : ByteArray), (⟨#[125]⟩ : ByteArray), (⟨#[44, 32, 98, 61]⟩ : ByteArray), (⟨#[125, 32, 49, 45, 50]⟩ : ByteArray)] : List ByteArray)) (inner := [.string (⟨#[34]⟩ : ByteArray), .string (⟨#[92]⟩ : ByteArray), .string (⟨#[127]⟩ : ByteArray), .string (⟨#[31]⟩ : ByteArray), .string (⟨#[116, 119, 101, 108, 118, 101, 32, 98, 121, 116, 101, 115]⟩ : ByteArray), .string (⟨#[116, 104, 105, 114, 116, 101, 101, 110, 98, 121, 116, 101, 115]⟩ : ByteArray), .string (⟨#[126]⟩ : ByteArray), .string (⟨#[125]⟩ : ByteArray), .string (⟨#[44, 32, 98, 61]⟩ : ByteArray), .string (⟨#[125, 32, 49, 45, 50]⟩ : ByteArray)]) (ok := fun _ => True) (okp := fun _ => True) gs ?hp (fun _ hk => hk) trivial (Below.refl _ _) (Nat.le_refl _) (by simp) ?_; (case hp => exact (Reps.one (show Kd.M Kd.string _ _ _ (⟨#[34]⟩ : ByteArray) [.string (⟨#[34]⟩ : ByteArray)] from rfl) (Reps.one (show Kd.M Kd.string _ _ _ (⟨#[92]⟩ : ByteArray) [.string (⟨#[92]⟩ : ByteArray)] from rfl) (Reps.one (show Kd.M Kd.string _ _ _ (⟨#[127]⟩ : ByteArray) [.string (⟨#[127]⟩ : ByteArray)] from rfl) (Reps.one (show Kd.M Kd.string _ _ _ (⟨#[31]⟩ : ByteArray) [.string (⟨#[31]⟩ : ByteArray)] from rfl) (Reps.one (show Kd.M Kd.string _ _ _ (⟨#[116, 119, 101, 108, 118, 101, 32, 98, 121, 116, 101, 115]⟩ : ByteArray) [.string (⟨#[116, 119, 101, 108, 118, 101, 32, 98, 121, 116, 101, 115]⟩ : ByteArray)] from rfl) (Reps.one (show Kd.M Kd.string _ _ _ (⟨#[116, 104, 105, 114, 116, 101, 101, 110, 98, 121, 116, 101, 115]⟩ : ByteArray) [.string (⟨#[116, 104, 105, 114, 116, 101, 101, 110, 98, 121, 116, 101, 115]⟩ : ByteArray)] from rfl) (Reps.one (show Kd.M Kd.string _ _ _ (⟨#[126]⟩ : ByteArray) [.string (⟨#[126]⟩ : ByteArray)] from rfl) (Reps.one (show Kd.M Kd.string _ _ _ (⟨#[125]⟩ : ByteArray) [.string (⟨#[125]⟩ : ByteArray)] from rfl) (Reps.one (show Kd.M Kd.string _ _ _ (⟨#[44, 32, 98, 61]⟩ : ByteArray) [.string (⟨#[44, 32, 98, 61]⟩ : ByteArray)] from rfl) (Reps.one (show Kd.M Kd.string _ _ _ (⟨#[125, 32, 49, 45, 50]⟩ : ByteArray) [.string (⟨#[125, 32, 49, 45, 50]⟩ : ByteArray)] from rfl) (Reps.none _ _)))))))))))); intro v312 w9 ho10 hb hg_ hnew_; clear hg_ hnew_; (first | rw [← Ny311.out] at ho10 | (simp only [Int.reduceToNat] at ho10; rw [← Ny311.out] at ho10)); have HO313 := aM (Kd.R_lower ho10 (keep_size (w := w) (g := g) (row := none) (kw HK))); replace HK := aM (KeepBut.trans (kw HK) (KeepBut.of_below hb g none) (.inl rfl)); replace HB := aM (below_step (bw HB) hb); replace HI0 := aM (IsS67.below (iw HI0) hb); clear hb ho10; obtain ⟨Ao11, co11, eo11⟩ := Kd.R_slice HO313.out; subst eo11) | (refine gl_ (some 9) Try.func57 #[.pointer (some ⟨g, 0, none⟩), .slice Ao11 y311.length co11] ?_; (with_reducible refine (spec_l1Str.calls g s0_0 t306 t307 _ _ y311 t314 t315 t316 w0 _ ?side1 ?side2 ?side3 ?side4 ?side5 A7.out).mono ?_); (case side1 => exact iw HI0); (case side2 => exact bw HB); (case side3 => exact cA ((Kd.R_reads' HO313.out).2.2)); (case side4 => exact (Kd.R_reads' HO313.out).2.1); (case side5 => exact far_slice (IsS67.own_ne HI0.out HO313.out (by decide))); rintro e w12 ⟨rfl, hi, hb, hk⟩; refine ⟨_, rfl, ?_⟩; replace HO313 := aM (Kd.R_mono (Kd.R_keep (IsS67.apart (show IsS67 w0 _ g s0_0 t306 t307 from (iw HI0)) (aR HO313) (by decide)) hk (fun _ h => h.2)) (fun _ h => h.1)); replace HK := aM (KeepBut.trans (kw HK) hk (.inl rfl)); replace HB := aM (hb); replace HI0 := aM (hi); (try clear hb); (try clear hb2); (try clear hk); (try clear hi)))
  go_ret
  exact ⟨er, (iw HI0), (bw HB), (kw HK)⟩

/-! ### spec_l1Names: function 83 -/
def spec_l1Names.f (s0_0 : List Int) (s0_1 : Int) (s0_2 : Int) : Option (ByteArray × Int × Int) := (spec_l1Str.f s0_0 s0_1 s0_2 (([(⟨#[97, 112, 112]⟩ : ByteArray), (⟨#[104, 111, 115, 116]⟩ : ByteArray), (⟨#[115, 101, 118]⟩ : ByteArray), (⟨#[122, 111, 110, 101]⟩ : ByteArray)] : List ByteArray))).bind fun bt320 => (some (bt320.1, bt320.2.1, bt320.2.2))
theorem spec_l1Names.calls (g : Nat) (s0_0 : List Int) (s0_1 : Int) (s0_2 : Int) (r1 : ByteArray) (r2 : Int) (r3 : Int) (w0 w : World) (hI : IsS67 w0 w g s0_0 s0_1 s0_2) (hB : Below w0.heap.size w0 w) (h : spec_l1Names.f s0_0 s0_1 s0_2 = some (r1, r2, r3)) :
  Calls Try.prog 83 #[.pointer (some ⟨g, 0, none⟩)] w fun e w' => e = .returned (.string r1) ∧ IsS67 w0 w' g s0_0 r2 r3 ∧ Below w0.heap.size w0 w' ∧ KeepBut w w' g none := by
 have HI0 := aM hI
 have HK := aM (KeepBut.refl w g none)
 have HL := aM hB.size
 clear hI
 have HW0 := aM hB.size
 have HB := aM hB
 clear hB
 have H : ((spec_l1Str.f s0_0 s0_1 s0_2 (([(⟨#[97, 112, 112]⟩ : ByteArray), (⟨#[104, 111, 115, 116]⟩ : ByteArray), (⟨#[115, 101, 118]⟩ : ByteArray), (⟨#[122, 111, 110, 101]⟩ : ByteArray)] : List ByteArray))).bind fun bt320 => (some (bt320.1, bt320.2.1, bt320.2.2))) = some (r1, r2, r3) := h
 clear h
 obtain ⟨y317, hy317⟩ : ∃ y_ : List ByteArray, y_ = (([(⟨#[97, 112, 112]⟩ : ByteArray), (⟨#[104, 111, 115, 116]⟩ : ByteArray), (⟨#[115, 101, 118]⟩ : ByteArray), (⟨#[122, 111, 110, 101]⟩ : ByteArray)] : List ByteArray)) := ⟨_, rfl⟩
 replace H : ((spec_l1Str.f s0_0 s0_1 s0_2 y317).bind fun bt320 => (some (bt320.1, bt320.2.1, bt320.2.2))) = some (r1, r2, r3) := by first | (rw [hy317]; exact H) | exact H
 have Ny317 := aM hy317
 clear hy317; replace H := bs_ H
 obtain ⟨⟨t320, t321, t322⟩, A20, H⟩ := H
 try dsimp only at H
 have A2 := aM A20
 clear A20
 simp only [Option.some.injEq, Prod.mk.injEq] at H
 obtain ⟨rfl, rfl, rfl⟩ := H
 go_enter Try.func83, Try.ntmps83
 go_wp2_with (first | ((with_reducible refine gate_dst (N := 4) rfl ?_); refine Kd.R_lit Kd.string _ 9 rfl (N := 4) rfl (xs := ([(⟨#[97, 112, 112]⟩ : ByteArray), (⟨#[104, 111, 115, 116]⟩ : ByteArray), (⟨#[115, 101, 118]⟩ : ByteArray), (⟨#[122, 111, 110, 101]⟩ : ByteArray)] : List ByteArray)) (inner := [.string (⟨#[97, 112, 112]⟩ : ByteArray), .string (⟨#[104, 111, 115, 116]⟩ : ByteArray), .string (⟨#[115, 101, 118]⟩ : ByteArray), .string (⟨#[122, 111, 110, 101]⟩ : ByteArray)]) (ok := fun _ => True) (okp := fun _ => True) gs ?hp (fun _ hk => hk) trivial (Below.refl _ _) (Nat.le_refl _) (by simp) ?_; (case hp => exact (Reps.one (show Kd.M Kd.string _ _ _ (⟨#[97, 112, 112]⟩ : ByteArray) [.string (⟨#[97, 112, 112]⟩ : ByteArray)] from rfl) (Reps.one (show Kd.M Kd.string _ _ _ (⟨#[104, 111, 115, 116]⟩ : ByteArray) [.string (⟨#[104, 111, 115, 116]⟩ : ByteArray)] from rfl) (Reps.one (show Kd.M Kd.string _ _ _ (⟨#[115, 101, 118]⟩ : ByteArray) [.string (⟨#[115, 101, 118]⟩ : ByteArray)] from rfl) (Reps.one (show Kd.M Kd.string _ _ _ (⟨#[122, 111, 110, 101]⟩ : ByteArray) [.string (⟨#[122, 111, 110, 101]⟩ : ByteArray)] from rfl) (Reps.none _ _)))))); intro v318 w3 ho4 hb hg_ hnew_; clear hg_ hnew_; (first | rw [← Ny317.out] at ho4 | (simp only [Int.reduceToNat] at ho4; rw [← Ny317.out] at ho4)); have HO319 := aM (Kd.R_lower ho4 (keep_size (w := w) (g := g) (row := none) (kw HK))); replace HK := aM (KeepBut.trans (kw HK) (KeepBut.of_below hb g none) (.inl rfl)); replace HB := aM (below_step (bw HB) hb); replace HI0 := aM (IsS67.below (iw HI0) hb); clear hb ho4; obtain ⟨Ao5, co5, eo5⟩ := Kd.R_slice HO319.out; subst eo5) | (refine gl_ (some 5) Try.func57 #[.pointer (some ⟨g, 0, none⟩), .slice Ao5 y317.length co5] ?_; (with_reducible refine (spec_l1Str.calls g s0_0 s0_1 s0_2 _ _ y317 t320 t321 t322 w0 _ ?side1 ?side2 ?side3 ?side4 ?side5 A2.out).mono ?_); (case side1 => exact iw HI0); (case side2 => exact bw HB); (case side3 => exact cA ((Kd.R_reads' HO319.out).2.2)); (case side4 => exact (Kd.R_reads' HO319.out).2.1); (case side5 => exact far_slice (IsS67.own_ne HI0.out HO319.out (by decide))); rintro e w6 ⟨rfl, hi, hb, hk⟩; refine ⟨_, rfl, ?_⟩; replace HO319 := aM (Kd.R_mono (Kd.R_keep (IsS67.apart (show IsS67 w0 _ g s0_0 s0_1 s0_2 from (iw HI0)) (aR HO319) (by decide)) hk (fun _ h => h.2)) (fun _ h => h.1)); replace HK := aM (KeepBut.trans (kw HK) hk (.inl rfl)); replace HB := aM (hb); replace HI0 := aM (hi); (try clear hb); (try clear hb2); (try clear hk); (try clear hi)))
 go_ret
 exact ⟨er, (iw HI0), (bw HB), (kw HK)⟩

/-! ### spec_l1AnyName: function 76 -/
def spec_l1AnyName.f (s0_0 : List Int) (s0_1 : Int) (s0_2 : Int) : Option (ByteArray × Int × Int) := (spec_l1Once.f s0_0 s0_1 s0_2 2).bind fun bt323 => (if bt323.1 = true then ((spec_l1Names.f s0_0 bt323.2.1 bt323.2.2).bind fun bt326 => (some (bt326.1, bt326.2.1, bt326.2.2))) else ((spec_l1Str.f s0_0 bt323.2.1 bt323.2.2 (([(⟨#[]⟩ : ByteArray), (⟨#[65]⟩ : ByteArray), (⟨#[110, 105, 110, 101, 99, 104, 97, 114, 115]⟩ : ByteArray), (⟨#[101, 105, 103, 104, 116, 97, 98, 99]⟩ : ByteArray), (⟨#[97, 32, 98]⟩ : ByteArray), (⟨#[97, 49]⟩ : ByteArray)] : List ByteArray))).bind fun bt332 => (some (bt332.1, bt332.2.1, bt332.2.2))))
theorem spec_l1AnyName.calls (g : Nat) (s0_0 : List Int) (s0_1 : Int) (s0_2 : Int) (r1 : ByteArray) (r2 : Int) (r3 : Int) (w0 w : World) (hI : IsS67 w0 w g s0_0 s0_1 s0_2) (hB : Below w0.heap.size w0 w) (h : spec_l1AnyName.f s0_0 s0_1 s0_2 = some (r1, r2, r3)) :
  Calls Try.prog 76 #[.pointer (some ⟨g, 0, none⟩)] w fun e w' => e = .returned (.string r1) ∧ IsS67 w0 w' g s0_0 r2 r3 ∧ Below w0.heap.size w0 w' ∧ KeepBut w w' g none := by
 have HI0 := aM hI
 have HK := aM (KeepBut.refl w g none)
 have HL := aM hB.size
 clear hI
 have HW0 := aM hB.size
 have HB := aM hB
 clear hB
 have H : ((spec_l1Once.f s0_0 s0_1 s0_2 2).bind fun bt323 => (if bt323.1 = true then ((spec_l1Names.f s0_0 bt323.2.1 bt323.2.2).bind fun bt326 => (some (bt326.1, bt326.2.1, bt326.2.2))) else ((spec_l1Str.f s0_0 bt323.2.1 bt323.2.2 (([(⟨#[]⟩ : ByteArray), (⟨#[65]⟩ : ByteArray), (⟨#[110, 105, 110, 101, 99, 104, 97, 114, 115]⟩ : ByteArray), (⟨#[101, 105, 103, 104, 116, 97, 98, 99]⟩ : ByteArray), (⟨#[97, 32, 98]⟩ : ByteArray), (⟨#[97, 49]⟩ : ByteArray)] : List ByteArray))).bind fun bt332 => (some (bt332.1, bt332.2.1, bt332.2.2))))) = some (r1, r2, r3) := h
 clear h; replace H := bs_ H
 obtain ⟨⟨t323, t324, t325⟩, A20, H⟩ := H
 try dsimp only at H
 have A2 := aM A20
 clear A20
 by_cases c3 : t323 = true
 ·subst c3
  have H1 : ((spec_l1Names.f s0_0 t324 t325).bind fun bt326 => (some (bt326.1, bt326.2.1, bt326.2.2))) = some (r1, r2, r3) := by rw [if_pos rfl] at H; exact H
  clear H
  have H := H1
  clear H1; replace H := bs_ H
  obtain ⟨⟨t326, t327, t328⟩, A40, H⟩ := H
  try dsimp only at H
  have A4 := aM A40
  clear A40
  simp only [Option.some.injEq, Prod.mk.injEq] at H
  obtain ⟨rfl, rfl, rfl⟩ := H
  go_enter Try.func76, Try.ntmps76
  go_wp2_with (first | (refine gl_ (some 4) Try.func26 #[.pointer (some ⟨g, 0, none⟩), .int .i64 2] ?_; (with_reducible refine (spec_l1Once.calls g s0_0 s0_1 s0_2 2 true t324 t325 w0 _ ?side1 ?side2 A2.out).mono ?_); (case side1 => exact iw HI0); (case side2 => exact bw HB); rintro e w5 ⟨rfl, hi, hb, hk⟩; refine ⟨_, rfl, ?_⟩; replace HK := aM (KeepBut.trans (kw HK) hk (.inl rfl)); replace HB := aM (hb); replace HI0 := aM (hi); (try clear hb); (try clear hb2); (try clear hk); (try clear hi)) | (refine gl_ (some 6) Try.func83 #[.pointer (some ⟨g, 0, none⟩)] ?_; (with_reducible refine (spec_l1Names.calls g s0_0 t324 t325 t326 t327 t328 w0 _ ?side1 ?side2 A4.out).mono ?_); (case side1 => exact iw HI0); (case side2 => exact bw HB); rintro e w6 ⟨rfl, hi, hb, hk⟩; refine ⟨_, rfl, ?_⟩; replace HK := aM (KeepBut.trans (kw HK) hk (.inl rfl)); replace HB := aM (hb); replace HI0 := aM (hi); (try clear hb); (try clear hb2); (try clear hk); (try clear hi)))
  go_ret
  exact ⟨er, (iw HI0), (bw HB), (kw HK)⟩
 ·replace c3 := Bool.eq_false_iff.mpr c3
  subst c3
  have H1 : ((spec_l1Str.f s0_0 t324 t325 (([(⟨#[]⟩ : ByteArray), (⟨#[65]⟩ : ByteArray), (⟨#[110, 105, 110, 101, 99, 104, 97, 114, 115]⟩ : ByteArray), (⟨#[101, 105, 103, 104, 116, 97, 98, 99]⟩ : ByteArray), (⟨#[97, 32, 98]⟩ : ByteArray), (⟨#[97, 49]⟩ : ByteArray)] : List ByteArray))).bind fun bt332 => (some (bt332.1, bt332.2.1, bt332.2.2))) = some (r1, r2, r3) := by rw [if_neg (show ¬ (false = true) by decide)] at H; exact H
  clear H
  have H := H1
  clear H1
  obtain ⟨y329, hy329⟩ : ∃ y_ : List ByteArray, y_ = (([(⟨#[]⟩ : ByteArray), (⟨#[65]⟩ : ByteArray), (⟨#[110, 105, 110, 101, 99, 104, 97, 114, 115]⟩ : ByteArray), (⟨#[101, 105, 103, 104, 116, 97, 98, 99]⟩ : ByteArray), (⟨#[97, 32, 98]⟩ : ByteArray), (⟨#[97, 49]⟩ : ByteArray)] : List ByteArray)) := ⟨_, rfl⟩
  replace H : ((spec_l1Str.f s0_0 t324 t325 y329).bind fun bt332 => (some (bt332.1, bt332.2.1, bt332.2.2))) = some (r1, r2, r3) := by first | (rw [hy329]; exact H) | exact H
  have Ny329 := aM hy329
  clear hy329; replace H := bs_ H
  obtain ⟨⟨t332, t333, t334⟩, A70, H⟩ := H
  try dsimp only at H
  have A7 := aM A70
  clear A70
  simp only [Option.some.injEq, Prod.mk.injEq] at H
  obtain ⟨rfl, rfl, rfl⟩ := H
  go_enter Try.func76, Try.ntmps76
  go_wp2_with (first | (refine gl_ (some 4) Try.func26 #[.pointer (some ⟨g, 0, none⟩), .int .i64 2] ?_; (with_reducible refine (spec_l1Once.calls g s0_0 s0_1 s0_2 2 false t324 t325 w0 _ ?side1 ?side2 A2.out).mono ?_); (case side1 => exact iw HI0); (case side2 => exact bw HB); rintro e w8 ⟨rfl, hi, hb, hk⟩; refine ⟨_, rfl, ?_⟩; replace HK := aM (KeepBut.trans (kw HK) hk (.inl rfl)); replace HB := aM (hb); replace HI0 := aM (hi); (try clear hb); (try clear hb2); (try clear hk); (try clear hi)) | ((with_reducible refine gate_dst (N := 8) rfl ?_); refine Kd.R_lit Kd.string _ 9 rfl (N := 8) rfl (xs := ([(⟨#[]⟩ : ByteArray), (⟨#[65]⟩ : ByteArray), (⟨#[110, 105, 110, 101, 99, 104, 97, 114, 115]⟩ : ByteArray), (⟨#[101, 105, 103, 104, 116, 97, 98, 99]⟩ : ByteArray), (⟨#[97, 32, 98]⟩ : ByteArray), (⟨#[97, 49]⟩ : ByteArray)] : List ByteArray)) (inner := [.string (⟨#[]⟩ : ByteArray), .string (⟨#[65]⟩ : ByteArray), .string (⟨#[110, 105, 110, 101, 99, 104, 97, 114, 115]⟩ : ByteArray), .string (⟨#[101, 105, 103, 104, 116, 97, 98, 99]⟩ : ByteArray), .string (⟨#[97, 32, 98]⟩ : ByteArray), .string (⟨#[97, 49]⟩ : ByteArray)]) (ok := fun _ => True) (okp := fun _ => True) gs ?hp (fun _ hk => hk) trivial (Below.refl _ _) (Nat.le_refl _) (by simp) ?_; (case hp => exact (Reps.one (show Kd.M Kd.string _ _ _ (⟨#[]⟩ : ByteArray) [.string (⟨#[]⟩ : ByteArray)] from rfl) (Reps.one (show Kd.M Kd.string _ _ _ (⟨#[65]⟩ : ByteArray) [.string (⟨#[65]⟩ : ByteArray)] from rfl) (Reps.one (show Kd.M Kd.string _ _ _ (⟨#[110, 105, 110, 101, 99, 104, 97, 114, 115]⟩ : ByteArray) [.string (⟨#[110, 105, 110, 101, 99, 104, 97, 114, 115]⟩ : ByteArray)] from rfl) (Reps.one (show Kd.M Kd.string _ _ _ (⟨#[101, 105, 103, 104, 116, 97, 98, 99]⟩ : ByteArray) [.string (⟨#[101, 105, 103, 104, 116, 97, 98, 99]⟩ : ByteArray)] from rfl) (Reps.one (show Kd.M Kd.string _ _ _ (⟨#[97, 32, 98]⟩ : ByteArray) [.string (⟨#[97, 32, 98]⟩ : ByteArray)] from rfl) (Reps.one (show Kd.M Kd.string _ _ _ (⟨#[97, 49]⟩ : ByteArray) [.string (⟨#[97, 49]⟩ : ByteArray)] from rfl) (Reps.none _ _)))))))); intro v330 w9 ho10 hb hg_ hnew_; clear hg_ hnew_; (first | rw [← Ny329.out] at ho10 | (simp only [Int.reduceToNat] at ho10; rw [← Ny329.out] at ho10)); have HO331 := aM (Kd.R_lower ho10 (keep_size (w := w) (g := g) (row := none) (kw HK))); replace HK := aM (KeepBut.trans (kw HK) (KeepBut.of_below hb g none) (.inl rfl)); replace HB := aM (below_step (bw HB) hb); replace HI0 := aM (IsS67.below (iw HI0) hb); clear hb ho10; obtain ⟨Ao11, co11, eo11⟩ := Kd.R_slice HO331.out; subst eo11) | (refine gl_ (some 9) Try.func57 #[.pointer (some ⟨g, 0, none⟩), .slice Ao11 y329.length co11] ?_; (with_reducible refine (spec_l1Str.calls g s0_0 t324 t325 _ _ y329 t332 t333 t334 w0 _ ?side1 ?side2 ?side3 ?side4 ?side5 A7.out).mono ?_); (case side1 => exact iw HI0); (case side2 => exact bw HB); (case side3 => exact cA ((Kd.R_reads' HO331.out).2.2)); (case side4 => exact (Kd.R_reads' HO331.out).2.1); (case side5 => exact far_slice (IsS67.own_ne HI0.out HO331.out (by decide))); rintro e w12 ⟨rfl, hi, hb, hk⟩; refine ⟨_, rfl, ?_⟩; replace HO331 := aM (Kd.R_mono (Kd.R_keep (IsS67.apart (show IsS67 w0 _ g s0_0 t324 t325 from (iw HI0)) (aR HO331) (by decide)) hk (fun _ h => h.2)) (fun _ h => h.1)); replace HK := aM (KeepBut.trans (kw HK) hk (.inl rfl)); replace HB := aM (hb); replace HI0 := aM (hi); (try clear hb); (try clear hb2); (try clear hk); (try clear hi)))
  go_ret
  exact ⟨er, (iw HI0), (bw HB), (kw HK)⟩

end Go.Proofs.Ytdhignbneeapiaa.PFnChains
