/- What the Go functions that FnChains reaches compute, as Lean functions, and that the machine's calls do so; no conditions. -/
import Derived.Test.YtdhignbneeapiaaPFnChainsx0
import Derived.Test.YtdhignbneeapiaaPFnChainsx2
import Derived.Test.YtdhignbneeapiaaPFnChainsx3
namespace Go.Proofs.Ytdhignbneeapiaa.PFnChains
open Go.Proofs.Ytdhignbneeapiaa
open Go.RowKit Go.Proofs.YtdhignbneeapiaaW.PrintWords Go.Proofs.YtdhignbneeapiaaW.PrintLast Go.Proofs.YtdhignbneeapiaaW.PrintMore
attribute [local go_sem] max2_int min2_int max_two min_two max_three min_three max_four min_four   -- for this text's walks alone
set_option linter.unusedVariables false
set_option linter.unusedSimpArgs false
set_option maxHeartbeats 8000000
set_option maxRecDepth 100000

/-! ### spec_l1Str: function 57 -/
def spec_l1Str.f (s0_0 : List Int) (s0_1 : Int) (s0_2 : Int) (l1 : List ByteArray) : Option (ByteArray × Int × Int) := (spec_l1Below.f s0_0 s0_1 s0_2 (l1.length : Int)).bind fun bt198 => (if 0 ≤ bt198.1 then (if bt198.1 < (l1.length : Int) then (some (rdOf ByteArray.empty l1 bt198.1, bt198.2.1, bt198.2.2)) else (none)) else (none))
theorem spec_l1Str.calls (g : Nat) (s0_0 : List Int) (s0_1 : Int) (s0_2 : Int) (A1 : Option Addr) (c1 : Nat) (l1 : List ByteArray) (r1 : ByteArray) (r2 : Int) (r3 : Int) (w0 w : World) (hI : IsS67 w0 w g s0_0 s0_1 s0_2) (hB : Below w0.heap.size w0 w) (hr1 : Kd.C Kd.string w A1 l1.length l1) (hc1 : l1.length ≤ c1) (hf1 : ∀ ad, A1 = some ad → 0 < l1.length → ad.block ≠ g) (h : spec_l1Str.f s0_0 s0_1 s0_2 l1 = some (r1, r2, r3)) :
  Calls Try.prog 57 #[.pointer (some ⟨g, 0, none⟩), .slice A1 l1.length c1] w fun e w' => e = .returned (.string r1) ∧ IsS67 w0 w' g s0_0 r2 r3 ∧ Below w0.heap.size w0 w' ∧ KeepBut w w' g none := by
 have HR1 := aM hr1
 have HC1 := aM hc1
 clear hr1 hc1
 have HI0 := aM hI
 have HK := aM (KeepBut.refl w g none)
 have HL := aM hB.size
 clear hI
 have HW0 := aM hB.size
 have HB := aM hB
 clear hB
 have H : ((spec_l1Below.f s0_0 s0_1 s0_2 (l1.length : Int)).bind fun bt198 => (if 0 ≤ bt198.1 then (if bt198.1 < (l1.length : Int) then (some (rdOf ByteArray.empty l1 bt198.1, bt198.2.1, bt198.2.2)) else (none)) else (none))) = some (r1, r2, r3) := h
 clear h; replace H := bs_ H
 obtain ⟨⟨t198, t199, t200⟩, A30, H⟩ := H
 try dsimp only at H
 have A3 := aM A30
 clear A30
 by_cases c4 : 0 ≤ t198
 ·rw [if_pos c4] at H; have c4b0 : decide (0 ≤ t198) = true := decide_eq_true c4; clear c4
  by_cases c5 : t198 < (l1.length : Int)
  ·rw [if_pos c5] at H; have c5b0 : decide (t198 < (l1.length : Int)) = true := decide_eq_true c5; clear c5
   simp only [Option.some.injEq, Prod.mk.injEq] at H
   obtain ⟨rfl, rfl, rfl⟩ := H
   go_enter Try.func57, Try.ntmps57
   go_wp2_with (first | (refine gl_ (some 9) Try.func27 #[.pointer (some ⟨g, 0, none⟩), .int .i64 (l1.length : Int)] ?_; (with_reducible refine (spec_l1Below.calls g s0_0 s0_1 s0_2 (l1.length : Int) t198 t199 t200 w0 _ ?side1 ?side2 A3.out).mono ?_); (case side1 => exact iw HI0); (case side2 => exact bw HB); rintro e w6 ⟨rfl, hi, hb, hk⟩; refine ⟨_, rfl, ?_⟩; replace HK := aM (KeepBut.trans (kw HK) hk (.inl rfl)); replace HB := aM (hb); replace HI0 := aM (hi); (try clear hb); (try clear hb2); (try clear hk); (try clear hi); have p201 : 0 ≤ (t198 : Int) := of_decide_eq_true as_; have q201 : t198 < (l1.length : Int) := of_decide_eq_true as_; obtain ⟨ad201, e201, hx201_0⟩ := Kd.at_string HR1.out t198 p201 q201; cases e201; replace hx201_0 := keep_cell HK.out hx201_0 (by first | (rw [add_block]; exact hf1 _ rfl (by omega)) | exact hf1 _ rfl (by omega) | exact hf1 ad201 rfl (by omega)); replace p201 := eq_true p201; replace q201 := eq_true q201))
   go_ret
   exact ⟨er, (iw HI0), (bw HB), (kw HK)⟩
  ·rw [if_neg c5] at H
   exact absurd H (by simp)
 ·rw [if_neg c4] at H
  exact absurd H (by simp)

/-! ### spec_l2Draw: function 36 -/
def spec_l2Draw.l0 : Nat → List (S76) → List ByteArray → Int → Int → List Int → Int → Int → Option ((List (S76)) × Int × Int)
 | 0, _, _, _, _, _, _, _ => none
 | k + 1, x3, x11, x12, x13, x1000, x1001, x1002 => if x13 < x12 then (if 0 ≤ x13 then (if x13 < (x11.length : Int) then ((spec_l1Once.f x1000 x1001 x1002 4).bind fun bt215 => (if bt215.1 = true then ((spec_l1Str.f x1000 bt215.2.1 bt215.2.2 (([(⟨#[49]⟩ : ByteArray), (⟨#[50]⟩ : ByteArray)] : List ByteArray))).bind fun bt221 => (if x3.length < 4398046511104 then (spec_l2Draw.l0 k (x3 ++ [(⟨rdOf ByteArray.empty x11 x13, bt221.1⟩ : S76)]) x11 x12 (wrap64 (x13 + 1)) x1000 bt221.2.1 bt221.2.2) else (none))) else (spec_l2Draw.l0 k x3 x11 x12 (wrap64 (x13 + 1)) x1000 bt215.2.1 bt215.2.2))) else (none)) else (none)) else (some (x3, x1001, x1002))
def spec_l2Draw.f (k : Nat) (s0_0 : List Int) (s0_1 : Int) (s0_2 : Int) : Option ((List (S76)) × Int × Int) := (spec_l1Str.f s0_0 s0_1 s0_2 (([(⟨#[97]⟩ : ByteArray), (⟨#[98]⟩ : ByteArray), (⟨#[99]⟩ : ByteArray)] : List ByteArray))).bind fun bt205 => ((some (([(⟨#[104, 111, 115, 116]⟩ : ByteArray), (⟨#[115, 101, 118]⟩ : ByteArray), (⟨#[122, 111, 110, 101]⟩ : ByteArray)] : List ByteArray) : List ByteArray)).bind fun y211 => (spec_l2Draw.l0 k (([(⟨(⟨#[97, 112, 112]⟩ : ByteArray), bt205.1⟩ : S76)] : List (S76))) y211 (y211.length : Int) 0 s0_0 bt205.2.1 bt205.2.2))
theorem spec_l2Draw.calls (k : Nat) (g : Nat) (s0_0 : List Int) (s0_1 : Int) (s0_2 : Int) (r1 : List (S76)) (r2 : Int) (r3 : Int) (w0 w : World) (hI : IsS67 w0 w g s0_0 s0_1 s0_2) (hB : Below w0.heap.size w0 w) (h : spec_l2Draw.f k s0_0 s0_1 s0_2 = some (r1, r2, r3)) :
  Calls Try.prog 36 #[.pointer (some ⟨g, 0, none⟩)] w fun e w' => ∃ v0_ : Value, e = .returned (v0_) ∧ Kd.R k76 76 w' w.heap.size (fun _ => True) v0_ r1 ∧ IsS67 w0 w' g s0_0 r2 r3 ∧ Below w0.heap.size w0 w' ∧ KeepBut w w' g none := by
 have hu76 := Try.underlying76
 have HI0 := aM hI
 have HK := aM (KeepBut.refl w g none)
 have HL := aM hB.size
 clear hI
 have HW0 := aM hB.size
 have HB := aM hB
 clear hB
 have H : ((spec_l1Str.f s0_0 s0_1 s0_2 (([(⟨#[97]⟩ : ByteArray), (⟨#[98]⟩ : ByteArray), (⟨#[99]⟩ : ByteArray)] : List ByteArray))).bind fun bt205 => ((some (([(⟨#[104, 111, 115, 116]⟩ : ByteArray), (⟨#[115, 101, 118]⟩ : ByteArray), (⟨#[122, 111, 110, 101]⟩ : ByteArray)] : List ByteArray) : List ByteArray)).bind fun y211 => (spec_l2Draw.l0 k (([(⟨(⟨#[97, 112, 112]⟩ : ByteArray), bt205.1⟩ : S76)] : List (S76))) y211 (y211.length : Int) 0 s0_0 bt205.2.1 bt205.2.2))) = some (r1, r2, r3) := h
 clear h
 obtain ⟨y202, hy202⟩ : ∃ y_ : List ByteArray, y_ = (([(⟨#[97]⟩ : ByteArray), (⟨#[98]⟩ : ByteArray), (⟨#[99]⟩ : ByteArray)] : List ByteArray)) := ⟨_, rfl⟩
 replace H : ((spec_l1Str.f s0_0 s0_1 s0_2 y202).bind fun bt205 => ((some (([(⟨#[104, 111, 115, 116]⟩ : ByteArray), (⟨#[115, 101, 118]⟩ : ByteArray), (⟨#[122, 111, 110, 101]⟩ : ByteArray)] : List ByteArray) : List ByteArray)).bind fun y211 => (spec_l2Draw.l0 k (([(⟨(⟨#[97, 112, 112]⟩ : ByteArray), bt205.1⟩ : S76)] : List (S76))) y211 (y211.length : Int) 0 s0_0 bt205.2.1 bt205.2.2))) = some (r1, r2, r3) := by first | (rw [hy202]; exact H) | exact H
 have Ny202 := aM hy202
 clear hy202; replace H := bs_ H
 obtain ⟨⟨t205, t206, t207⟩, A20, H⟩ := H
 try dsimp only at H
 have A2 := aM A20
 clear A20
 obtain ⟨y208, hy208⟩ : ∃ y_ : List (S76), y_ = (([(⟨(⟨#[97, 112, 112]⟩ : ByteArray), t205⟩ : S76)] : List (S76))) := ⟨_, rfl⟩
 replace H : ((some (([(⟨#[104, 111, 115, 116]⟩ : ByteArray), (⟨#[115, 101, 118]⟩ : ByteArray), (⟨#[122, 111, 110, 101]⟩ : ByteArray)] : List ByteArray) : List ByteArray)).bind fun y211 => (spec_l2Draw.l0 k y208 y211 (y211.length : Int) 0 s0_0 t206 t207)) = some (r1, r2, r3) := by first | (rw [hy208]; exact H) | exact H
 have Ny208 := aM hy208
 clear hy208
 obtain ⟨y211, hy211⟩ : ∃ y_ : List ByteArray, y_ = (([(⟨#[104, 111, 115, 116]⟩ : ByteArray), (⟨#[115, 101, 118]⟩ : ByteArray), (⟨#[122, 111, 110, 101]⟩ : ByteArray)] : List ByteArray)) := ⟨_, rfl⟩
 replace H : (spec_l2Draw.l0 k y208 y211 (y211.length : Int) 0 s0_0 t206 t207) = some (r1, r2, r3) := by first | (rw [hy211]; exact H) | exact H
 have Ny211 := aM hy211
 clear hy211
 have H' := aM H
 clear H
 go_enter Try.func36, Try.ntmps36
 go_wp2_with (first | ((with_reducible refine gate_dst (N := 7) rfl ?_); refine Kd.R_lit Kd.string _ 9 rfl (N := 7) rfl (xs := ([(⟨#[97]⟩ : ByteArray), (⟨#[98]⟩ : ByteArray), (⟨#[99]⟩ : ByteArray)] : List ByteArray)) (inner := [.string (⟨#[97]⟩ : ByteArray), .string (⟨#[98]⟩ : ByteArray), .string (⟨#[99]⟩ : ByteArray)]) (ok := fun _ => True) (okp := fun _ => True) gs ?hp (fun _ hk => hk) trivial (Below.refl _ _) (Nat.le_refl _) (by simp) ?_; (case hp => exact (Reps.one (show Kd.M Kd.string _ _ _ (⟨#[97]⟩ : ByteArray) [.string (⟨#[97]⟩ : ByteArray)] from rfl) (Reps.one (show Kd.M Kd.string _ _ _ (⟨#[98]⟩ : ByteArray) [.string (⟨#[98]⟩ : ByteArray)] from rfl) (Reps.one (show Kd.M Kd.string _ _ _ (⟨#[99]⟩ : ByteArray) [.string (⟨#[99]⟩ : ByteArray)] from rfl) (Reps.none _ _))))); intro v203 w3 ho4 hb hg_ hnew_; clear hg_ hnew_; (first | rw [← Ny202.out] at ho4 | (simp only [Int.reduceToNat] at ho4; rw [← Ny202.out] at ho4)); have HO204 := aM (Kd.R_lower ho4 (keep_size (w := w) (g := g) (row := none) (kw HK))); replace HK := aM (KeepBut.trans (kw HK) (KeepBut.of_below hb g none) (.inl rfl)); replace HB := aM (below_step (bw HB) hb); replace HI0 := aM (IsS67.below (iw HI0) hb); clear hb ho4; obtain ⟨Ao5, co5, eo5⟩ := Kd.R_slice HO204.out; subst eo5) | (refine gl_ (some 8) Try.func57 #[.pointer (some ⟨g, 0, none⟩), .slice Ao5 y202.length co5] ?_; (with_reducible refine (spec_l1Str.calls g s0_0 s0_1 s0_2 _ _ y202 t205 t206 t207 w0 _ ?side1 ?side2 ?side3 ?side4 ?side5 A2.out).mono ?_); (case side1 => exact iw HI0); (case side2 => exact bw HB); (case side3 => exact cA ((Kd.R_reads' HO204.out).2.2)); (case side4 => exact (Kd.R_reads' HO204.out).2.1); (case side5 => exact far_slice (IsS67.own_ne HI0.out HO204.out (by decide))); rintro e w6 ⟨rfl, hi, hb, hk⟩; refine ⟨_, rfl, ?_⟩; replace HO204 := aM (Kd.R_mono (Kd.R_keep (IsS67.apart (show IsS67 w0 _ g s0_0 s0_1 s0_2 from (iw HI0)) (aR HO204) (by decide)) hk (fun _ h => h.2)) (fun _ h => h.1)); replace HK := aM (KeepBut.trans (kw HK) hk (.inl rfl)); replace HB := aM (hb); replace HI0 := aM (hi); (try clear hb); (try clear hb2); (try clear hk); (try clear hi)) | ((with_reducible refine gate_dst (N := 10) rfl ?_); refine Kd.R_lit k76 _ 76 rfl (N := 10) rfl (xs := ([(⟨(⟨#[97, 112, 112]⟩ : ByteArray), t205⟩ : S76)] : List (S76))) (inner := [.string (⟨#[97, 112, 112]⟩ : ByteArray), .string t205]) (ok := fun _ => True) (okp := fun _ => True) gs ?hp (fun _ hk => hk) trivial (Below.refl _ _) (Nat.le_refl _) (by simp) ?_; (case hp => exact (Reps.c2 (show Kd.M k76 _ _ _ (⟨(⟨#[97, 112, 112]⟩ : ByteArray), t205⟩ : S76) [.string (⟨#[97, 112, 112]⟩ : ByteArray), .string t205] from (k76_mkM _ _ _ (⟨(⟨#[97, 112, 112]⟩ : ByteArray), t205⟩ : S76) )) (Reps.none _ _))); intro v209 w7 ho8 hb hg_ hnew_; clear hg_ hnew_; (first | rw [← Ny208.out] at ho8 | (simp only [Int.reduceToNat] at ho8; rw [← Ny208.out] at ho8)); replace HO204 := rb HO204 hb; have HO210 := aM (Kd.R_lower ho8 (keep_size (w := w) (g := g) (row := none) (kw HK))); replace HK := aM (KeepBut.trans (kw HK) (KeepBut.of_below hb g none) (.inl rfl)); replace HB := aM (below_step (bw HB) hb); replace HI0 := aM (IsS67.below (iw HI0) hb); clear hb ho8) | ((with_reducible refine gate_dst (N := 11) rfl ?_); refine Kd.R_lit Kd.string _ 9 rfl (N := 11) rfl (xs := ([(⟨#[104, 111, 115, 116]⟩ : ByteArray), (⟨#[115, 101, 118]⟩ : ByteArray), (⟨#[122, 111, 110, 101]⟩ : ByteArray)] : List ByteArray)) (inner := [.string (⟨#[104, 111, 115, 116]⟩ : ByteArray), .string (⟨#[115, 101, 118]⟩ : ByteArray), .string (⟨#[122, 111, 110, 101]⟩ : ByteArray)]) (ok := fun _ => True) (okp := fun _ => True) gs ?hp (fun _ hk => hk) trivial (Below.refl _ _) (Nat.le_refl _) (by simp) ?_; (case hp => exact (Reps.one (show Kd.M Kd.string _ _ _ (⟨#[104, 111, 115, 116]⟩ : ByteArray) [.string (⟨#[104, 111, 115, 116]⟩ : ByteArray)] from rfl) (Reps.one (show Kd.M Kd.string _ _ _ (⟨#[115, 101, 118]⟩ : ByteArray) [.string (⟨#[115, 101, 118]⟩ : ByteArray)] from rfl) (Reps.one (show Kd.M Kd.string _ _ _ (⟨#[122, 111, 110, 101]⟩ : ByteArray) [.string (⟨#[122, 111, 110, 101]⟩ : ByteArray)] from rfl) (Reps.none _ _))))); intro v212 w9 ho10 hb hg_ hnew_; clear hg_ hnew_; (first | rw [← Ny211.out] at ho10 | (simp only [Int.reduceToNat] at ho10; rw [← Ny211.out] at ho10)); replace HO210 := rb HO210 hb; have HO213 := aM (Kd.R_lower (Kd.R_new' ho10 (Kd.R_lt (aR HO204))) (keep_size (w := w) (g := g) (row := none) (kw HK))); replace HO204 := aM (Kd.R_elder' (aR HO204) (Kd.R_base ho10) hb); replace HK := aM (KeepBut.trans (kw HK) (KeepBut.of_below hb g none) (.inl rfl)); replace HB := aM (below_step (bw HB) hb); replace HI0 := aM (IsS67.below (iw HI0) hb); clear hb ho10; obtain ⟨Ao11, co11, eo11⟩ := Kd.R_slice HO213.out; subst eo11))
 go_loopg [3, 13] k (fun kq v3 v13 w' => ∃ (x3_1 : List (S76)) (x13_1 : Int) (x1001_1 : Int) (x1002_1 : Int), v13 = .int .i64 x13_1 ∧ Aside0 (spec_l2Draw.l0 kq x3_1 y211 (y211.length : Int) x13_1 s0_0 x1001_1 x1002_1 = some (r1, r2, r3)) ∧ Aside0 (kq ≤ k) ∧ Aside0 (Kd.R k76 76 w' w.heap.size (fun _ => True) v3 x3_1) ∧ Aside0 (Kd.R Kd.string 9 w' w.heap.size (fun _ => True) (.slice Ao11 y211.length co11) y211) ∧ Aside0 (IsS67 w0 w' g s0_0 x1001_1 x1002_1) ∧ Aside0 (KeepBut w w' g none) ∧ Aside0 (Below w0.heap.size w0 w'))
 case atStart => exact ⟨(y208), (0), (t206), (t207), rs_, H', ⟨Nat.le_refl _⟩, ⟨by (with_reducible repeat (first | apply aR1 | apply aR2 | apply aR3)); exact HO210.out⟩, ⟨by (with_reducible repeat (first | apply aR1 | apply aR2 | apply aR3)); exact Kd.R_mono HO213.out (fun _ hk => trivial)⟩, ⟨(iw HI0)⟩, ⟨(kw HK)⟩, ⟨(bw HB)⟩⟩
 case round =>
  clear H'
  try clear c2
  try clear p2
  try clear c3
  try clear c5
  obtain ⟨x3_1, x13_1, x1001_1, x1002_1, rfl, HA, HK1, HO_3, HO_11, HI0, HK, HB⟩ := hrel
  cases gk with
  | zero => exact absurd HA.out (by simp [spec_l2Draw.l0])
  | succ k1 =>
   have H := HA.out
   clear HA
   simp only [spec_l2Draw.l0] at H
   by_cases c12 : x13_1 < (y211.length : Int)
   ·rw [if_pos c12] at H; have c12b0 : decide (x13_1 < (y211.length : Int)) = true := decide_eq_true c12; clear c12
    by_cases c13 : 0 ≤ x13_1
    ·rw [if_pos c13] at H; have c13b0 : decide (0 ≤ x13_1) = true := decide_eq_true c13; clear c13
     by_cases c14 : x13_1 < (y211.length : Int)
     ·rw [if_pos c14] at H; have c14b0 : decide (x13_1 < (y211.length : Int)) = true := decide_eq_true c14; clear c14; replace H := bs_ H
      obtain ⟨⟨t215, t216, t217⟩, A150, H⟩ := H
      try dsimp only at H
      have A15 := aM A150
      clear A150
      by_cases c16 : t215 = true
      ·subst c16
       have H1 : ((spec_l1Str.f s0_0 t216 t217 (([(⟨#[49]⟩ : ByteArray), (⟨#[50]⟩ : ByteArray)] : List ByteArray))).bind fun bt221 => (if x3_1.length < 4398046511104 then (spec_l2Draw.l0 k1 (x3_1 ++ [(⟨rdOf ByteArray.empty y211 x13_1, bt221.1⟩ : S76)]) y211 (y211.length : Int) (wrap64 (x13_1 + 1)) s0_0 bt221.2.1 bt221.2.2) else (none))) = some (r1, r2, r3) := by rw [if_pos rfl] at H; exact H
       clear H
       have H := H1
       clear H1
       obtain ⟨y218, hy218⟩ : ∃ y_ : List ByteArray, y_ = (([(⟨#[49]⟩ : ByteArray), (⟨#[50]⟩ : ByteArray)] : List ByteArray)) := ⟨_, rfl⟩
       replace H : ((spec_l1Str.f s0_0 t216 t217 y218).bind fun bt221 => (if x3_1.length < 4398046511104 then (spec_l2Draw.l0 k1 (x3_1 ++ [(⟨rdOf ByteArray.empty y211 x13_1, bt221.1⟩ : S76)]) y211 (y211.length : Int) (wrap64 (x13_1 + 1)) s0_0 bt221.2.1 bt221.2.2) else (none))) = some (r1, r2, r3) := by first | (rw [hy218]; exact H) | exact H
       have Ny218 := aM hy218
       clear hy218; replace H := bs_ H
       obtain ⟨⟨t221, t222, t223⟩, A170, H⟩ := H
       try dsimp only at H
       have A17 := aM A170
       clear A170
       by_cases c18 : x3_1.length < 4398046511104
       ·rw [if_pos c18] at H
        have LMc18 := aM c18
        clear c18
        obtain ⟨y224, hy224⟩ : ∃ y_ : List (S76), y_ = (x3_1 ++ [(⟨rdOf ByteArray.empty y211 x13_1, t221⟩ : S76)]) := ⟨_, rfl⟩
        replace H : (spec_l2Draw.l0 k1 y224 y211 (y211.length : Int) (wrap64 (x13_1 + 1)) s0_0 t222 t223) = some (r1, r2, r3) := by first | (rw [hy224]; exact H) | exact H
        have Ny224 := aM hy224
        clear hy224
        have H' := aM H
        clear H
        have p214 : 0 ≤ (x13_1 : Int) := of_decide_eq_true as_
        have q214 : x13_1 < (y211.length : Int) := of_decide_eq_true as_
        obtain ⟨ad214, e214, hx214_0⟩ := Kd.at_string (Kd.R_reads' HO_11.out).2.2 x13_1 p214 q214
        cases e214
        replace p214 := eq_true p214
        replace q214 := eq_true q214
        go_wp2_with (first | (refine gl_ (some 18) Try.func26 #[.pointer (some ⟨g, 0, none⟩), .int .i64 4] ?_; (with_reducible refine (spec_l1Once.calls g s0_0 x1001_1 x1002_1 4 true t216 t217 w0 _ ?side1 ?side2 A15.out).mono ?_); (case side1 => exact iw HI0); (case side2 => exact bw HB); rintro e w19 ⟨rfl, hi, hb, hk⟩; refine ⟨_, rfl, ?_⟩; replace HO_3 := aM (Kd.R_mono (Kd.R_keep (IsS67.apart (show IsS67 w0 _ g s0_0 x1001_1 x1002_1 from (iw HI0)) (aR HO_3) (by decide)) hk (fun _ h => h.2)) (fun _ h => h.1)); replace HO_11 := aM (Kd.R_mono (Kd.R_keep (IsS67.apart (show IsS67 w0 _ g s0_0 x1001_1 x1002_1 from (iw HI0)) (aR HO_11) (by decide)) hk (fun _ h => h.2)) (fun _ h => h.1)); replace HK := aM (KeepBut.trans (kw HK) hk (.inl rfl)); replace HB := aM (hb); replace HI0 := aM (hi); (try clear hb); (try clear hb2); (try clear hk); (try clear hi)) | ((with_reducible refine gate_dst (N := 22) rfl ?_); refine Kd.R_lit Kd.string _ 9 rfl (N := 22) rfl (xs := ([(⟨#[49]⟩ : ByteArray), (⟨#[50]⟩ : ByteArray)] : List ByteArray)) (inner := [.string (⟨#[49]⟩ : ByteArray), .string (⟨#[50]⟩ : ByteArray)]) (ok := fun _ => True) (okp := fun _ => True) gs ?hp (fun _ hk => hk) trivial (Below.refl _ _) (Nat.le_refl _) (by simp) ?_; (case hp => exact (Reps.one (show Kd.M Kd.string _ _ _ (⟨#[49]⟩ : ByteArray) [.string (⟨#[49]⟩ : ByteArray)] from rfl) (Reps.one (show Kd.M Kd.string _ _ _ (⟨#[50]⟩ : ByteArray) [.string (⟨#[50]⟩ : ByteArray)] from rfl) (Reps.none _ _)))); intro v219 w20 ho21 hb hg_ hnew_; clear hg_ hnew_; (first | rw [← Ny218.out] at ho21 | (simp only [Int.reduceToNat] at ho21; rw [← Ny218.out] at ho21)); replace HO_3 := rb HO_3 hb; have HO220 := aM (Kd.R_lower (Kd.R_new' ho21 (Kd.R_lt (aR HO_11))) (keep_size (w := w) (g := g) (row := none) (kw HK))); replace HO_11 := aM (Kd.R_elder' (aR HO_11) (Kd.R_base ho21) hb); replace HK := aM (KeepBut.trans (kw HK) (KeepBut.of_below hb g none) (.inl rfl)); replace HB := aM (below_step (bw HB) hb); replace HI0 := aM (IsS67.below (iw HI0) hb); clear hb ho21; obtain ⟨Ao22, co22, eo22⟩ := Kd.R_slice HO220.out; subst eo22) | (refine gl_ (some 23) Try.func57 #[.pointer (some ⟨g, 0, none⟩), .slice Ao22 y218.length co22] ?_; (with_reducible refine (spec_l1Str.calls g s0_0 t216 t217 _ _ y218 t221 t222 t223 w0 _ ?side1 ?side2 ?side3 ?side4 ?side5 A17.out).mono ?_); (case side1 => exact iw HI0); (case side2 => exact bw HB); (case side3 => exact cA ((Kd.R_reads' HO220.out).2.2)); (case side4 => exact (Kd.R_reads' HO220.out).2.1); (case side5 => exact far_slice (IsS67.own_ne HI0.out HO220.out (by decide))); rintro e w23 ⟨rfl, hi, hb, hk⟩; refine ⟨_, rfl, ?_⟩; replace HO_3 := aM (Kd.R_mono (Kd.R_keep (IsS67.apart (show IsS67 w0 _ g s0_0 t216 t217 from (iw HI0)) (aR HO_3) (by decide)) hk (fun _ h => h.2)) (fun _ h => h.1)); replace HO_11 := aM (Kd.R_mono (Kd.R_keep (IsS67.apart (show IsS67 w0 _ g s0_0 t216 t217 from (iw HI0)) (aR HO_11) (by decide)) hk (fun _ h => h.2)) (fun _ h => h.1)); replace HO220 := aM (Kd.R_mono (Kd.R_keep (IsS67.apart (show IsS67 w0 _ g s0_0 t216 t217 from (iw HI0)) (aR HO220) (by decide)) hk (fun _ h => h.2)) (fun _ h => h.1)); replace HK := aM (KeepBut.trans (kw HK) hk (.inl rfl)); replace HB := aM (hb); replace HI0 := aM (hi); (try clear hb); (try clear hb2); (try clear hk); (try clear hi)) | ((with_reducible refine gate_builtin (b := .append) (xs := #[.tmp 19, .tmp 25]) rfl ?_); at_builtin; refine Kd.R_append k76 w.heap.size rfl (.tmp 19) (.tmp 25) 27 76 (.agg #[(.string ⟨#[]⟩), (.string ⟨#[]⟩)]) 32 rfl Try.underlying27 info76 rfl (by decide) (by omega) u3 x3_1 (⟨rdOf ByteArray.empty y211 x13_1, t221⟩ : S76) [.string (rdOf ByteArray.empty y211 x13_1), .string t221] (fun _ => True) (fun _ => False) rfl rfl ?aP (fun _ hk => hk.elim) ?aF ?aO (Below.refl _ _) ?aS ?aL ?_; (case aP => exact k76_mkM _ _ _ (⟨rdOf ByteArray.empty y211 x13_1, t221⟩ : S76)); (case aF => exact (fun _ _ => trivial)); (case aO => exact (aR HO_3)); (case aS => exact (keep_size (w := w) (g := g) (row := none) (kw HK))); (case aL => have := LMc18.out; omega); intro v225 w24 ho hb hg hat; rw [← Ny224.out] at ho; replace HO_11 := aM (Kd.R_over' (aR HO_11) (Kd.R_typed (aR HO_3)) (by decide) hg); replace HO220 := aM (Kd.R_over' (aR HO220) (Kd.R_typed (aR HO_3)) (by decide) hg); replace HB := aM (below_weaken (bw HB) HL.out hb); replace HI0 := aM (IsS67.grown (iw HI0) hg (IsS67.own_ne HI0.out HO_3.out (by decide))); replace HK := aM (KeepBut.trans (kw HK) (KeepBut.of_grown hg g) (Kd.R_base2 HO_3.out)); have HO226 := aM (ho); clear HO_3 ho hb hg hat))
        go_roundg k1
        case measure => have := HK1.out; omega
        case rel => exact ⟨(y224), (wrap64 (x13_1 + 1)), (t222), (t223), rs_, H', ⟨by have := HK1.out; omega⟩, ⟨by (with_reducible repeat (first | apply aR1 | apply aR2 | apply aR3)); exact HO226.out⟩, ⟨by (with_reducible repeat (first | apply aR1 | apply aR2 | apply aR3)); exact Kd.R_mono HO_11.out (fun _ hk => trivial)⟩, ⟨(iw HI0)⟩, ⟨(kw HK)⟩, ⟨(bw HB)⟩⟩
       ·rw [if_neg c18] at H
        exact absurd H (by simp)
      ·replace c16 := Bool.eq_false_iff.mpr c16
       subst c16
       have H1 : (spec_l2Draw.l0 k1 x3_1 y211 (y211.length : Int) (wrap64 (x13_1 + 1)) s0_0 t216 t217) = some (r1, r2, r3) := by rw [if_neg (show ¬ (false = true) by decide)] at H; exact H
       clear H
       have H := H1
       clear H1
       have H' := aM H
       clear H
       have p214 : 0 ≤ (x13_1 : Int) := of_decide_eq_true as_
       have q214 : x13_1 < (y211.length : Int) := of_decide_eq_true as_
       obtain ⟨ad214, e214, hx214_0⟩ := Kd.at_string (Kd.R_reads' HO_11.out).2.2 x13_1 p214 q214
       cases e214
       replace p214 := eq_true p214
       replace q214 := eq_true q214
       go_wp2_with (first | (refine gl_ (some 18) Try.func26 #[.pointer (some ⟨g, 0, none⟩), .int .i64 4] ?_; (with_reducible refine (spec_l1Once.calls g s0_0 x1001_1 x1002_1 4 false t216 t217 w0 _ ?side1 ?side2 A15.out).mono ?_); (case side1 => exact iw HI0); (case side2 => exact bw HB); rintro e w25 ⟨rfl, hi, hb, hk⟩; refine ⟨_, rfl, ?_⟩; replace HO_3 := aM (Kd.R_mono (Kd.R_keep (IsS67.apart (show IsS67 w0 _ g s0_0 x1001_1 x1002_1 from (iw HI0)) (aR HO_3) (by decide)) hk (fun _ h => h.2)) (fun _ h => h.1)); replace HO_11 := aM (Kd.R_mono (Kd.R_keep (IsS67.apart (show IsS67 w0 _ g s0_0 x1001_1 x1002_1 from (iw HI0)) (aR HO_11) (by decide)) hk (fun _ h => h.2)) (fun _ h => h.1)); replace HK := aM (KeepBut.trans (kw HK) hk (.inl rfl)); replace HB := aM (hb); replace HI0 := aM (hi); (try clear hb); (try clear hb2); (try clear hk); (try clear hi)))
       go_roundg k1
       case measure => have := HK1.out; omega
       case rel => exact ⟨(x3_1), (wrap64 (x13_1 + 1)), (t216), (t217), rs_, H', ⟨by have := HK1.out; omega⟩, ⟨by (with_reducible repeat (first | apply aR1 | apply aR2 | apply aR3)); exact HO_3.out⟩, ⟨by (with_reducible repeat (first | apply aR1 | apply aR2 | apply aR3)); exact HO_11.out⟩, ⟨(iw HI0)⟩, ⟨(kw HK)⟩, ⟨(bw HB)⟩⟩
     ·rw [if_neg c14] at H
      exact absurd H (by simp)
    ·rw [if_neg c13] at H
     exact absurd H (by simp)
   ·rw [if_neg c12] at H; have c12b0 : decide (x13_1 < (y211.length : Int)) = false := decide_eq_false c12; clear c12
    simp only [Option.some.injEq, Prod.mk.injEq] at H
    obtain ⟨rfl, rfl, rfl⟩ := H
    go_wp2
    go_ret
    exact ⟨_, er, by (with_reducible repeat (first | apply aR1 | apply aR2 | apply aR3)); exact HO_3.out, (iw HI0), (bw HB), (kw HK)⟩

/-! ### spec_l1Plain: function 50 -/
def spec_l1Plain.f (s0_0 : List Int) (s0_1 : Int) (s0_2 : Int) : Option (ByteArray × Int × Int) := (spec_l1Str.f s0_0 s0_1 s0_2 (([(⟨#[97]⟩ : ByteArray), (⟨#[98]⟩ : ByteArray), (⟨#[120, 32, 121]⟩ : ByteArray), (⟨#[]⟩ : ByteArray), (⟨#[99, 114, 105, 116]⟩ : ByteArray), (⟨#[125, 45]⟩ : ByteArray)] : List ByteArray))).bind fun bt230 => (some (bt230.1, bt230.2.1, bt230.2.2))
theorem spec_l1Plain.calls (g : Nat) (s0_0 : List Int) (s0_1 : Int) (s0_2 : Int) (r1 : ByteArray) (r2 : Int) (r3 : Int) (w0 w : World) (hI : IsS67 w0 w g s0_0 s0_1 s0_2) (hB : Below w0.heap.size w0 w) (h : spec_l1Plain.f s0_0 s0_1 s0_2 = some (r1, r2, r3)) :
  Calls Try.prog 50 #[.pointer (some ⟨g, 0, none⟩)] w fun e w' => e = .returned (.string r1) ∧ IsS67 w0 w' g s0_0 r2 r3 ∧ Below w0.heap.size w0 w' ∧ KeepBut w w' g none := by
 have HI0 := aM hI
 have HK := aM (KeepBut.refl w g none)
 have HL := aM hB.size
 clear hI
 have HW0 := aM hB.size
 have HB := aM hB
 clear hB
 have H : ((spec_l1Str.f s0_0 s0_1 s0_2 (([(⟨#[97]⟩ : ByteArray), (⟨#[98]⟩ : ByteArray), (⟨#[120, 32, 121]⟩ : ByteArray), (⟨#[]⟩ : ByteArray), (⟨#[99, 114, 105, 116]⟩ : ByteArray), (⟨#[125, 45]⟩ : ByteArray)] : List ByteArray))).bind fun bt230 => (some (bt230.1, bt230.2.1, bt230.2.2))) = some (r1, r2, r3) := h
 clear h
 obtain ⟨y227, hy227⟩ : ∃ y_ : List ByteArray, y_ = (([(⟨#[97]⟩ : ByteArray), (⟨#[98]⟩ : ByteArray), (⟨#[120, 32, 121]⟩ : ByteArray), (⟨#[]⟩ : ByteArray), (⟨#[99, 114, 105, 116]⟩ : ByteArray), (⟨#[125, 45]⟩ : ByteArray)] : List ByteArray)) := ⟨_, rfl⟩
 replace H : ((spec_l1Str.f s0_0 s0_1 s0_2 y227).bind fun bt230 => (some (bt230.1, bt230.2.1, bt230.2.2))) = some (r1, r2, r3) := by first | (rw [hy227]; exact H) | exact H
 have Ny227 := aM hy227
 clear hy227; replace H := bs_ H
 obtain ⟨⟨t230, t231, t232⟩, A20, H⟩ := H
 try dsimp only at H
 have A2 := aM A20
 clear A20
 simp only [Option.some.injEq, Prod.mk.injEq] at H
 obtain ⟨rfl, rfl, rfl⟩ := H
 go_enter Try.func50, Try.ntmps50
 go_wp2_with (first | ((with_reducible refine gate_dst (N := 4) rfl ?_); refine Kd.R_lit Kd.string _ 9 rfl (N := 4) rfl (xs := ([(⟨#[97]⟩ : ByteArray), (⟨#[98]⟩ : ByteArray), (⟨#[120, 32, 121]⟩ : ByteArray), (⟨#[]⟩ : ByteArray), (⟨#[99, 114, 105, 116]⟩ : ByteArray), (⟨#[125, 45]⟩ : ByteArray)] : List ByteArray)) (inner := [.string (⟨#[97]⟩ : ByteArray), .string (⟨#[98]⟩ : ByteArray), .string (⟨#[120, 32, 121]⟩ : ByteArray), .string (⟨#[]⟩ : ByteArray), .string (⟨#[99, 114, 105, 116]⟩ : ByteArray), .string (⟨#[125, 45]⟩ : ByteArray)]) (ok := fun _ => True) (okp := fun _ => True) gs ?hp (fun _ hk => hk) trivial (Below.refl _ _) (Nat.le_refl _) (by simp) ?_; (case hp => exact (Reps.one (show Kd.M Kd.string _ _ _ (⟨#[97]⟩ : ByteArray) [.string (⟨#[97]⟩ : ByteArray)] from rfl) (Reps.one (show Kd.M Kd.string _ _ _ (⟨#[98]⟩ : ByteArray) [.string (⟨#[98]⟩ : ByteArray)] from rfl) (Reps.one (show Kd.M Kd.string _ _ _ (⟨#[120, 32, 121]⟩ : ByteArray) [.string (⟨#[120, 32, 121]⟩ : ByteArray)] from rfl) (Reps.one (show Kd.M Kd.string _ _ _ (⟨#[]⟩ : ByteArray) [.string (⟨#[]⟩ : ByteArray)] from rfl) (Reps.one (show Kd.M Kd.string _ _ _ (⟨#[99, 114, 105, 116]⟩ : ByteArray) [.string (⟨#[99, 114, 105, 116]⟩ : ByteArray)] from rfl) (Reps.one (show Kd.M Kd.string _ _ _ (⟨#[125, 45]⟩ : ByteArray) [.string (⟨#[125, 45]⟩ : ByteArray)] from rfl) (Reps.none _ _)))))))); intro v228 w3 ho4 hb hg_ hnew_; clear hg_ hnew_; (first | rw [← Ny227.out] at ho4 | (simp only [Int.reduceToNat] at ho4; rw [← Ny227.out] at ho4)); have HO229 := aM (Kd.R_lower ho4 (keep_size (w := w) (g := g) (row := none) (kw HK))); replace HK := aM (KeepBut.trans (kw HK) (KeepBut.of_below hb g none) (.inl rfl)); replace HB := aM (below_step (bw HB) hb); replace HI0 := aM (IsS67.below (iw HI0) hb); clear hb ho4; obtain ⟨Ao5, co5, eo5⟩ := Kd.R_slice HO229.out; subst eo5) | (refine gl_ (some 5) Try.func57 #[.pointer (some ⟨g, 0, none⟩), .slice Ao5 y227.length co5] ?_; (with_reducible refine (spec_l1Str.calls g s0_0 s0_1 s0_2 _ _ y227 t230 t231 t232 w0 _ ?side1 ?side2 ?side3 ?side4 ?side5 A2.out).mono ?_); (case side1 => exact iw HI0); (case side2 => exact bw HB); (case side3 => exact cA ((Kd.R_reads' HO229.out).2.2)); (case side4 => exact (Kd.R_reads' HO229.out).2.1); (case side5 => exact far_slice (IsS67.own_ne HI0.out HO229.out (by decide))); rintro e w6 ⟨rfl, hi, hb, hk⟩; refine ⟨_, rfl, ?_⟩; replace HO229 := aM (Kd.R_mono (Kd.R_keep (IsS67.apart (show IsS67 w0 _ g s0_0 s0_1 s0_2 from (iw HI0)) (aR HO229) (by decide)) hk (fun _ h => h.2)) (fun _ h => h.1)); replace HK := aM (KeepBut.trans (kw HK) hk (.inl rfl)); replace HB := aM (hb); replace HI0 := aM (hi); (try clear hb); (try clear hb2); (try clear hk); (try clear hi)))
 go_ret
 exact ⟨er, (iw HI0), (bw HB), (kw HK)⟩

/-! ### spec_l4Draw: function 25 -/
def spec_l4Draw.f (k : Nat) (s0_0 : List Int) (s0_1 : Int) (s0_2 : Int) : Option ((List (S76)) × Int × Int × ByteArray × Int × Int) := (spec_l2Draw.f k s0_0 s0_1 s0_2).bind fun bt234 => ((spec_l1Below.f s0_0 bt234.2.1 bt234.2.2 8).bind fun bt239 => ((spec_l1Plain.f s0_0 bt239.2.1 bt239.2.2).bind fun bt242 => ((spec_l1Int.f s0_0 bt242.2.1 bt242.2.2 (([0, 2, 5, 20, 60] : List Int))).bind fun bt249 => (some (bt234.1, bt239.1, wrap64 (bt239.1 + bt249.1), bt242.1, bt249.2.1, bt249.2.2)))))
def spec_l4Draw.T2 : Bool × List (List Nat × List Nat) := (true, [([], []), ([0], [0]), ([], []), ([], []), ([2, 3], [2, 3]), ([1, 4], [1, 4]), ([0, 1, 2, 3, 4, 5], []), ([6, 5, 4, 0, 1, 2, 3, 4, 5], [5, 6])])
def spec_l4Draw.B2 : List Nat := [0, 1, 0, 0, 12, 31, 63, 127]
theorem spec_l4Draw.tab2 : rtab .any (opsOf Try.f25 2) = spec_l4Draw.T2 := by kernel_rfl
theorem spec_l4Draw.bits2 : waitsOk spec_l4Draw.T2.2 spec_l4Draw.B2 = true := by kernel_rfl
theorem spec_l4Draw.calls (k : Nat) (g : Nat) (s0_0 : List Int) (s0_1 : Int) (s0_2 : Int) (r1 : List (S76)) (r2 : Int) (r3 : Int) (r4 : ByteArray) (r5 : Int) (r6 : Int) (w0 w : World) (hI : IsS67 w0 w g s0_0 s0_1 s0_2) (hB : Below w0.heap.size w0 w) (h : spec_l4Draw.f k s0_0 s0_1 s0_2 = some (r1, r2, r3, r4, r5, r6)) :
  Calls Try.prog 25 #[.pointer (some ⟨g, 0, none⟩)] w fun e w' => ∃ v0_ : Value, e = .returned (.agg #[v0_, .int .i64 r2, .int .i64 r3, .string r4]) ∧ Kd.R k76 76 w' w.heap.size (fun _ => True) v0_ r1 ∧ IsS67 w0 w' g s0_0 r5 r6 ∧ Below w0.heap.size w0 w' ∧ KeepBut w w' g none := by
 have hu29 := Try.underlying29
 have HI0 := aM hI
 have HK := aM (KeepBut.refl w g none)
 have HL := aM hB.size
 clear hI
 have HW0 := aM hB.size
 have HB := aM hB
 clear hB
 have H : ((spec_l2Draw.f k s0_0 s0_1 s0_2).bind fun bt234 => ((spec_l1Below.f s0_0 bt234.2.1 bt234.2.2 8).bind fun bt239 => ((spec_l1Plain.f s0_0 bt239.2.1 bt239.2.2).bind fun bt242 => ((spec_l1Int.f s0_0 bt242.2.1 bt242.2.2 (([0, 2, 5, 20, 60] : List Int))).bind fun bt249 => (some (bt234.1, bt239.1, wrap64 (bt239.1 + bt249.1), bt242.1, bt249.2.1, bt249.2.2)))))) = some (r1, r2, r3, r4, r5, r6) := h
 clear h; replace H := bs_ H
 obtain ⟨⟨t234, t237, t238⟩, A20, H⟩ := H
 try dsimp only at H
 have A2 := aM A20
 clear A20; replace H := bs_ H
 obtain ⟨⟨t239, t240, t241⟩, A30, H⟩ := H
 try dsimp only at H
 have A3 := aM A30
 clear A30; replace H := bs_ H
 obtain ⟨⟨t242, t243, t244⟩, A40, H⟩ := H
 try dsimp only at H
 have A4 := aM A40
 clear A40
 obtain ⟨y246, hy246⟩ : ∃ y_ : List Int, y_ = (([0, 2, 5, 20, 60] : List Int)) := ⟨_, rfl⟩
 replace H : ((spec_l1Int.f s0_0 t243 t244 y246).bind fun bt249 => (some (t234, t239, wrap64 (t239 + bt249.1), t242, bt249.2.1, bt249.2.2))) = some (r1, r2, r3, r4, r5, r6) := by first | (rw [hy246]; exact H) | exact H
 have Ny246 := aM hy246
 clear hy246; replace H := bs_ H
 obtain ⟨⟨t249, t250, t251⟩, A50, H⟩ := H
 try dsimp only at H
 have A5 := aM A50
 clear A50
 simp only [Option.some.injEq, Prod.mk.injEq] at H
 obtain ⟨rfl, rfl, rfl, rfl, rfl, rfl⟩ := H
 go_enter Try.func25, Try.ntmps25
 try go_wp2_with (first | (refine be_ 2 #[.slice none 0 0, .int .i64 0, .int .i64 0, .string (⟨#[]⟩ : ByteArray)] 29 ?_; intro gb233 hg w6 hbox hb; replace HB := aM (below_step (bw HB) hb); have BK233 := aM (hbox); have GW233 := gk hg (kw HK); have GE233 := aM ((Nat.le_trans HW0.out (by rw [hg]; exact (keep_size (w := w) (g := g) (row := none) (kw HK)) : w.heap.size ≤ gb233) : w0.heap.size ≤ gb233)); replace HK := aM (KeepBut.trans (kw HK) (KeepBut.of_below hb g none) (.inl rfl)); have NB0_233 := aM ((by rw [hg]; exact Nat.ne_of_lt (IsS67.lt (show IsS67 w0 _ g s0_0 s0_1 s0_2 from (iw HI0))) : g ≠ gb233)); have NB233_0 := aM ((by rw [hg]; exact Nat.ne_of_gt (IsS67.lt (show IsS67 w0 _ g s0_0 s0_1 s0_2 from (iw HI0))) : gb233 ≠ g)); replace HI0 := aM (IsS67.below (iw HI0) hb); clear hb hbox hg) | (refine gl_ (some 5) Try.func36 #[.pointer (some ⟨g, 0, none⟩)] ?_; (with_reducible refine (spec_l2Draw.calls k g s0_0 s0_1 s0_2 t234 t237 t238 w0 _ ?side1 ?side2 A2.out).mono ?_); (case side1 => exact iw HI0); (case side2 => exact bw HB); rintro e w7 ⟨v235, rfl, ho0, hi, hb, hk⟩; refine ⟨_, rfl, ?_⟩; replace BK233 := aM (KeepBut.blk hk (g' := gb233) (aB BK233) NB233_0.out (by simp)); have HO236 := aM (Kd.R_lower ho0 (keep_size (w := w) (g := g) (row := none) (kw HK))); replace HK := aM (KeepBut.trans (kw HK) hk (.inl rfl)); replace HB := aM (hb); replace HI0 := aM (hi); (try clear hb); (try clear hb2); (try clear hk); (try clear hi); (try clear ho0)) | (refine gl_ (some 7) Try.func27 #[.pointer (some ⟨g, 0, none⟩), .int .i64 8] ?_; (with_reducible refine (spec_l1Below.calls g s0_0 t237 t238 8 t239 t240 t241 w0 _ ?side1 ?side2 A3.out).mono ?_); (case side1 => exact iw HI0); (case side2 => exact bw HB); rintro e w8 ⟨rfl, hi, hb, hk⟩; refine ⟨_, rfl, ?_⟩; replace BK233 := aM (KeepBut.blk hk (g' := gb233) (aB BK233) NB233_0.out (by simp)); replace HO236 := aM (Kd.R_mono (Kd.R_keep (IsS67.apart (show IsS67 w0 _ g s0_0 t237 t238 from (iw HI0)) (aR HO236) (by decide)) hk (fun _ h => h.2)) (fun _ h => h.1)); replace HK := aM (KeepBut.trans (kw HK) hk (.inl rfl)); replace HB := aM (hb); replace HI0 := aM (hi); (try clear hb); (try clear hb2); (try clear hk); (try clear hi)) | (refine gl_ (some 9) Try.func50 #[.pointer (some ⟨g, 0, none⟩)] ?_; (with_reducible refine (spec_l1Plain.calls g s0_0 t240 t241 t242 t243 t244 w0 _ ?side1 ?side2 A4.out).mono ?_); (case side1 => exact iw HI0); (case side2 => exact bw HB); rintro e w9 ⟨rfl, hi, hb, hk⟩; refine ⟨_, rfl, ?_⟩; replace BK233 := aM (KeepBut.blk hk (g' := gb233) (aB BK233) NB233_0.out (by simp)); replace HO236 := aM (Kd.R_mono (Kd.R_keep (IsS67.apart (show IsS67 w0 _ g s0_0 t240 t241 from (iw HI0)) (aR HO236) (by decide)) hk (fun _ h => h.2)) (fun _ h => h.1)); replace HK := aM (KeepBut.trans (kw HK) hk (.inl rfl)); replace HB := aM (hb); replace HI0 := aM (hi); (try clear hb); (try clear hb2); (try clear hk); (try clear hi); obtain ⟨Ao10, co10, eo10⟩ := Kd.R_slice HO236.out; subst eo10) | (refine be_ 3 #[.slice none 0 0, .int .i64 0, .int .i64 0, .string (⟨#[]⟩ : ByteArray)] 29 ?_; intro gb245 hg w11 hbox hb; replace HO236 := rb HO236 hb; replace HB := aM (below_step (bw HB) hb); have BK245 := aM (hbox); have GW245 := gk hg (kw HK); have GE245 := aM ((Nat.le_trans HW0.out (by rw [hg]; exact (keep_size (w := w) (g := g) (row := none) (kw HK)) : w.heap.size ≤ gb245) : w0.heap.size ≤ gb245)); replace HK := aM (KeepBut.trans (kw HK) (KeepBut.of_below hb g none) (.inl rfl)); have NB233_245 := nb1 hg BK233; have NB245_233 := nb2 hg BK233; replace BK233 := bb BK233 hb; have NB0_245 := aM ((by rw [hg]; exact Nat.ne_of_lt (IsS67.lt (show IsS67 w0 _ g s0_0 t243 t244 from (iw HI0))) : g ≠ gb245)); have NB245_0 := aM ((by rw [hg]; exact Nat.ne_of_gt (IsS67.lt (show IsS67 w0 _ g s0_0 t243 t244 from (iw HI0))) : gb245 ≠ g)); replace HI0 := aM (IsS67.below (iw HI0) hb); clear hb hbox hg; have hnb12 := NB245_233.out; have hnc12 := NB233_245.out; have hnb13 := NB245_0.out; have hnc13 := NB0_245.out; obtain ⟨hcz14_0, hcz14_1, hcz14_2, hcz14_3⟩ := zc4 BK245; have hfz14_0 := zf BK245))
 have n0_ : Aside0 (Kd.R k76 76 ((((w11.setCell ⟨gb245, 0, none⟩ (.slice Ao10 t234.length co10)).setCell ⟨gb245, 1, none⟩ (.int .i64 t239)).setCell ⟨gb245, 2, none⟩ (.int .i64 0)).setCell ⟨gb245, 3, none⟩ (.string t242)) w.heap.size (fun _ => True) (.slice Ao10 t234.length co10) t234) := ⟨by (with_reducible repeat (first | apply aR1 | apply aR2 | apply aR3)); exact Kd.R_mono (Kd.R_far (p := ⟨gb245, 3, none⟩) (Kd.R_far (p := ⟨gb245, 2, none⟩) (Kd.R_far (p := ⟨gb245, 1, none⟩) (Kd.R_far (p := ⟨gb245, 0, none⟩) (Kd.R_types HO236.out BK245.out (by decide)) (fun _ hk => hk.2) (.slice Ao10 t234.length co10)) (fun _ hk => hk.2) (.int .i64 t239)) (fun _ hk => hk.2) (.int .i64 0)) (fun _ hk => hk.2) (.string t242)) (fun _ hk => trivial)⟩
 have n1_ : Aside0 (((((w11.setCell ⟨gb245, 0, none⟩ (.slice Ao10 t234.length co10)).setCell ⟨gb245, 1, none⟩ (.int .i64 t239)).setCell ⟨gb245, 2, none⟩ (.int .i64 0)).setCell ⟨gb245, 3, none⟩ (.string t242)).heap[gb233]? = some (.cells #[.slice none 0 0, .int .i64 0, .int .i64 0, .string (⟨#[]⟩ : ByteArray)] 29 (0, 0))) := ⟨by refine blk_far ?_ NB233_245.out _; refine blk_far ?_ NB233_245.out _; refine blk_far ?_ NB233_245.out _; refine blk_far ?_ NB233_245.out _; exact aB BK233⟩
 have n2_ : Aside0 (((((w11.setCell ⟨gb245, 0, none⟩ (.slice Ao10 t234.length co10)).setCell ⟨gb245, 1, none⟩ (.int .i64 t239)).setCell ⟨gb245, 2, none⟩ (.int .i64 0)).setCell ⟨gb245, 3, none⟩ (.string t242)).heap[gb245]? = some (.cells #[.slice Ao10 t234.length co10, .int .i64 t239, .int .i64 0, .string t242] 29 (0, 0))) := ⟨by refine blk_put (cs := #[.slice Ao10 t234.length co10, .int .i64 t239, .int .i64 0, .string (⟨#[]⟩ : ByteArray)]) ?_ 3 _ rfl; refine blk_put (cs := #[.slice Ao10 t234.length co10, .int .i64 t239, .int .i64 0, .string (⟨#[]⟩ : ByteArray)]) ?_ 2 _ rfl; refine blk_put (cs := #[.slice Ao10 t234.length co10, .int .i64 0, .int .i64 0, .string (⟨#[]⟩ : ByteArray)]) ?_ 1 _ rfl; refine blk_put (cs := #[.slice none 0 0, .int .i64 0, .int .i64 0, .string (⟨#[]⟩ : ByteArray)]) ?_ 0 _ rfl; exact aB BK245⟩
 have n3_ : Aside0 (IsS67 w0 ((((w11.setCell ⟨gb245, 0, none⟩ (.slice Ao10 t234.length co10)).setCell ⟨gb245, 1, none⟩ (.int .i64 t239)).setCell ⟨gb245, 2, none⟩ (.int .i64 0)).setCell ⟨gb245, 3, none⟩ (.string t242)) g s0_0 t243 t244) := ⟨(iw HI0)⟩
 have n4_ : Aside0 (KeepBut w ((((w11.setCell ⟨gb245, 0, none⟩ (.slice Ao10 t234.length co10)).setCell ⟨gb245, 1, none⟩ (.int .i64 t239)).setCell ⟨gb245, 2, none⟩ (.int .i64 0)).setCell ⟨gb245, 3, none⟩ (.string t242)) g none) := ⟨(kw HK)⟩
 have n5_ : Aside0 (Below w0.heap.size w0 ((((w11.setCell ⟨gb245, 0, none⟩ (.slice Ao10 t234.length co10)).setCell ⟨gb245, 1, none⟩ (.int .i64 t239)).setCell ⟨gb245, 2, none⟩ (.int .i64 0)).setCell ⟨gb245, 3, none⟩ (.string t242))) := ⟨(bw HB)⟩
 (try clear HO236)
 (try clear BK233)
 (try clear BK245)
 (try clear HI0)
 (try clear HK)
 (try clear HB)
 generalize ((((w11.setCell ⟨gb245, 0, none⟩ (.slice Ao10 t234.length co10)).setCell ⟨gb245, 1, none⟩ (.int .i64 t239)).setCell ⟨gb245, 2, none⟩ (.int .i64 0)).setCell ⟨gb245, 3, none⟩ (.string t242)) = w15 at n0_ n1_ n2_ n3_ n4_ n5_ ⊢
 have HO236 := n0_; have BK233 := n1_; have BK245 := n2_; have HI0 := n3_; have HK := n4_; have HB := n5_; clear n0_ n1_ n2_ n3_ n4_ n5_
 replace HO236 := aM (Kd.R_drew HO236.out)
 replace BK233 := aM (blk_drew BK233.out)
 replace BK245 := aM (blk_drew BK245.out)
 replace HI0 := aM (IsS67.drew HI0.out)
 replace HK := aM (keep_drew HK.out)
 replace HB := aM (below_drew1 HB.out)
 refine start_ (n := 8) (S := fun w' => w'.cell? ⟨gb245, 0, none⟩ = some (.slice Ao10 t234.length co10) ∧ w'.cell? ⟨gb245, 1, none⟩ = some (.int .i64 t239) ∧ w'.cell? ⟨gb245, 2, none⟩ = some (.int .i64 0) ∧ w'.cell? ⟨gb245, 3, none⟩ = some (.string t242)) (ds := [7]) (bz 8 0) (by kernel_rfl) rfl (by kernel_rfl) ⟨(blk_cell BK245.out 0).trans rfl, (blk_cell BK245.out 1).trans rfl, (blk_cell BK245.out 2).trans rfl, (blk_cell BK245.out 3).trans rfl⟩ (fun hHeld => ?_); refine with_tabW spec_l4Draw.tab2 spec_l4Draw.bits2 (fun HT_ HW_ => ?_)
 generalize w15.drew = w16 at HO236 BK233 BK245 HI0 HK HB hHeld ⊢
 refine (pu 0 (some 11) 1 ?_ ?_ HT_ ?_ ?_ ?_ (pu 2 (some 13) 5 ?_ ?_ HT_ ?_ ?_ ?_ (tk 1 (some 12) 7 ?_ ?_ HT_ HW_ hHeld ?_ ?_ ?_ ?_)))
 all_goals first | (rintro w' ⟨s0, s1, s2, s3⟩; go_simp; with_reducible rfl) | (intro w'; go_simp; with_reducible rfl) | (simp only [u6_]; rfl) | rfl | skip
 refine one_ (i := 3) (N := some 14) (bz 8 15) rfl rfl (one_of HT_.out (by kernel_rfl)) (by decide) (fun K hK => ?_)
 refine Kd.R_lit_step (Kd.int .i64) _ 3 rfl (N := 14) rfl (xs := ([0, 2, 5, 20, 60] : List Int)) (inner := [.int .i64 0, .int .i64 2, .int .i64 5, .int .i64 20, .int .i64 60]) (ok := fun _ => True) (okp := fun _ => True) gs ?hp (fun _ hk => hk) trivial (Below.refl _ _) (Nat.le_refl _) (by simp) ?_; (case hp => exact (Reps.one (show Kd.M (Kd.int .i64) _ _ _ 0 [.int .i64 0] from rfl) (Reps.one (show Kd.M (Kd.int .i64) _ _ _ 2 [.int .i64 2] from rfl) (Reps.one (show Kd.M (Kd.int .i64) _ _ _ 5 [.int .i64 5] from rfl) (Reps.one (show Kd.M (Kd.int .i64) _ _ _ 20 [.int .i64 20] from rfl) (Reps.one (show Kd.M (Kd.int .i64) _ _ _ 60 [.int .i64 60] from rfl) (Reps.none _ _)))))))
 intro v247 w17 ho18 hb hg_ hnew_
 clear hg_ hnew_
 (first | rw [← Ny246.out] at ho18 | (simp only [Int.reduceToNat] at ho18; rw [← Ny246.out] at ho18))
 replace HO236 := rb HO236 hb
 have HO248 := aM (Kd.R_lower ho18 (keep_size (w := w) (g := g) (row := none) (kw HK)))
 replace BK233 := bb BK233 hb
 replace BK245 := bb BK245 hb
 replace HK := aM (KeepBut.trans (kw HK) (KeepBut.of_below hb g none) (.inl rfl))
 replace HB := aM (below_step (bw HB) hb)
 replace HI0 := aM (IsS67.below (iw HI0) hb)
 clear hb ho18
 obtain ⟨Ao19, co19, eo19⟩ := Kd.R_slice HO248.out
 (first | subst eo19 | (injection eo19 with f1_ f2_ f3_; have f4_ := f1_.symm; have f5_ := f3_.symm; clear f1_ f2_ f3_; subst f4_; subst f5_))
 refine hK.out _ _ ⟨(blk_cell BK245.out 0).trans rfl, (blk_cell BK245.out 1).trans rfl, (blk_cell BK245.out 2).trans rfl, (blk_cell BK245.out 3).trans rfl⟩ (fun hHeld => ?_)
 clear hK K
 refine norm_ (a' := ?_) ?_ ?_
 rotate_left
 ·show Act.put _ (some 14) _ = _
  simp only [u6_]
  rfl
 refine one_ (i := 4) (N := some 15) (bz 8 31) rfl rfl (one_of HT_.out (by kernel_rfl)) (by decide) (fun K hK => ?_)
 refine goes_ Try.func33 (by kernel_rfl) rfl #[.pointer (some ⟨g, 0, none⟩), .slice Ao19 y246.length co19] (by rfl) rfl rfl mp ?_
 with_reducible refine (spec_l1Int.calls g s0_0 t243 t244 _ _ y246 t249 t250 t251 w0 _ ?side1 ?side2 ?side3 ?side4 ?side5 A5.out).mono ?_
 (case side1 => exact iw HI0)
 (case side2 => exact bw HB)
 (case side3 => exact cA ((Kd.R_reads' HO248.out).2.2))
 (case side4 => exact (Kd.R_reads' HO248.out).2.1)
 (case side5 => exact far_slice (IsS67.own_ne HI0.out HO248.out (by decide)))
 rintro e w20 ⟨rfl, hi, hb, hk⟩
 refine ⟨_, rfl, ?_⟩
 replace BK233 := aM (KeepBut.blk hk (g' := gb233) (aB BK233) NB233_0.out (by simp))
 replace HO236 := aM (Kd.R_mono (Kd.R_keep (IsS67.apart (show IsS67 w0 _ g s0_0 t243 t244 from (iw HI0)) (aR HO236) (by decide)) hk (fun _ h => h.2)) (fun _ h => h.1))
 replace BK245 := aM (KeepBut.blk hk (g' := gb245) (aB BK245) NB245_0.out (by simp))
 replace HO248 := aM (Kd.R_mono (Kd.R_keep (IsS67.apart (show IsS67 w0 _ g s0_0 t243 t244 from (iw HI0)) (aR HO248) (by decide)) hk (fun _ h => h.2)) (fun _ h => h.1))
 replace HK := aM (KeepBut.trans (kw HK) hk (.inl rfl))
 replace HB := aM (hb)
 replace HI0 := aM (hi)
 (try clear hb)
 (try clear hb2)
 (try clear hk)
 (try clear hi)
 refine hK.out _ _ ⟨(blk_cell BK245.out 0).trans rfl, (blk_cell BK245.out 1).trans rfl, (blk_cell BK245.out 2).trans rfl, (blk_cell BK245.out 3).trans rfl⟩ (fun hHeld => ?_)
 clear hK K
 refine norm_ (a' := ?_) ?_ ?_
 rotate_left
 ·show Act.put _ (some 15) _ = _
  simp only [u6_]
  rfl
 refine (pu 5 (some 16) 63 ?_ ?_ HT_ ?_ ?_ ?_ (pu 6 (some 17) 127 ?_ ?_ HT_ ?_ ?_ ?_ ?_))
 all_goals first | (intro w'; go_simp; with_reducible rfl) | (simp only [u6_]; rfl) | rfl | skip
 refine last_ (i := 7) (N := none) (bz 8 255) rfl rfl (one_of HT_.out (by kernel_rfl)) (by decide) (fun K hK => ?_)
 have hs21 : w20.cell? ⟨gb245, 2, none⟩ = some (.int .i64 0) := (blk_cell BK245.out 2).trans rfl
 have hfs21 := blk_frozen BK245.out 2
 have hns21_0 := NB233_245.out
 have hms21_0 := NB245_233.out
 refine skip_ (w1 := ?_) (by rfl) rfl ?_ ?_
 rotate_left
 ·go_simp
  rfl
 refine hK.out _ _ ?_
 clear hK K
 refine done_ (done_of HT_.out (by kernel_rfl)) ?_
 obtain ⟨hcz22_0, hcz22_1, hcz22_2, hcz22_3⟩ := zc4 BK245; have hfz22_0 := zf BK245; have hnb23 := NB233_0.out; have hnc23 := NB0_233.out; obtain ⟨hcz24_0, hcz24_1, hcz24_2, hcz24_3⟩ := zc4 BK233; have hfz24_0 := zf BK233
 try go_wp2
 refine bodyPost_ret (results_cell_row rfl _ _ gb233 29 #[.slice Ao10 t234.length co10, .int .i64 t239, .int .i64 (wrap64 (t239 + t249)), .string t242] (0, 0) _ rfl (by refine blk_put (cs := #[.slice Ao10 t234.length co10, .int .i64 t239, .int .i64 (wrap64 (t239 + t249)), .string (⟨#[]⟩ : ByteArray)]) ?_ 3 _ rfl; refine blk_put (cs := #[.slice Ao10 t234.length co10, .int .i64 t239, .int .i64 0, .string (⟨#[]⟩ : ByteArray)]) ?_ 2 _ rfl; refine blk_put (cs := #[.slice Ao10 t234.length co10, .int .i64 0, .int .i64 0, .string (⟨#[]⟩ : ByteArray)]) ?_ 1 _ rfl; refine blk_put (cs := #[.slice none 0 0, .int .i64 0, .int .i64 0, .string (⟨#[]⟩ : ByteArray)]) ?_ 0 _ rfl; refine blk_far ?_ NB233_245.out _; exact aB BK233) Try.underlying29 rfl (by kernel_rfl)) rfl ?_
 exact ⟨_, er, by (with_reducible repeat (first | apply aR1 | apply aR2 | apply aR3)); exact Kd.R_mono (Kd.R_far (p := ⟨gb233, 3, none⟩) (Kd.R_far (p := ⟨gb233, 2, none⟩) (Kd.R_far (p := ⟨gb233, 1, none⟩) (Kd.R_far (p := ⟨gb233, 0, none⟩) (Kd.R_far (p := ⟨gb245, 2, none⟩) (Kd.R_types (Kd.R_types HO236.out BK245.out (by decide)) BK233.out (by decide)) (fun _ hk => hk.1.2) (.int .i64 (wrap64 (t239 + t249)))) (fun _ hk => hk.2) (.slice Ao10 t234.length co10)) (fun _ hk => hk.2) (.int .i64 t239)) (fun _ hk => hk.2) (.int .i64 (wrap64 (t239 + t249)))) (fun _ hk => hk.2) (.string t242)) (fun _ hk => trivial), (iw HI0), (bw HB), (kw HK)⟩

/-! ### spec_Sum: function 66 -/
def spec_Sum.l0 : Nat → ByteArray → Int → Int → Option (Int)
 | 0, _, _, _ => none
 | k + 1, x0, x3, x4 => if x4 < (x0.size : Int) then (if 0 ≤ x4 then (spec_Sum.l0 k x0 (Go.bits .and .i64 (wrap64 ((Go.bits .xor .i64 x3 (wrap64 (bt x0 x4))) * 16777619)) 4294967295) (wrap64 (x4 + 1))) else (none)) else (some x3)
def spec_Sum.f (k : Nat) (a0 : ByteArray) : Option (Int) := spec_Sum.l0 k a0 2166136261 0
theorem spec_Sum.calls (k : Nat) (a0 : ByteArray) (r : Int) (w : World) (h : spec_Sum.f k a0 = some r) :
  Calls Try.prog 66 #[.string a0] w fun e w' => e = .returned (.int .i64 r) ∧ Drawn0 w w' := by
 have H : (spec_Sum.l0 k a0 2166136261 0) = some r := h
 clear h
 have H' := aM H
 clear H
 go_enter Try.func66, Try.ntmps66
 go_wp2
 go_loopg [3, 4] k (fun kq v3 v4 w' => ∃ (x3_1 : Int) (x4_1 : Int), v3 = .int .i64 x3_1 ∧ v4 = .int .i64 x4_1 ∧ Aside0 (spec_Sum.l0 kq a0 x3_1 x4_1 = some r) ∧ Aside0 (kq ≤ k) ∧ Drawn0 w w')
 case atStart => exact ⟨(2166136261), (0), rs_, rs_, H', ⟨Nat.le_refl _⟩, by repeat (first | exact Drawn0.refl _ | apply Drawn0.step)⟩
 case round =>
  clear H'
  obtain ⟨x3_1, x4_1, rfl, rfl, HA, HK1, ⟨m1, rfl⟩⟩ := hrel
  cases gk with
  | zero => exact absurd HA.out (by simp [spec_Sum.l0])
  | succ k1 =>
   have H := HA.out
   clear HA
   simp only [spec_Sum.l0] at H
   by_cases c2 : x4_1 < (a0.size : Int)
   ·rw [if_pos c2] at H; have c2b0 : decide (x4_1 < (a0.size : Int)) = true := decide_eq_true c2; clear c2
    by_cases c3 : 0 ≤ x4_1
    ·rw [if_pos c3] at H; have c3b0 : decide (0 ≤ x4_1) = true := decide_eq_true c3; clear c3
     have H' := aM H
     clear H
     have p4 : 0 ≤ (x4_1 : Int) := of_decide_eq_true as_
     have q4 : x4_1 < (a0.size : Int) := of_decide_eq_true as_
     have hx4 := bt_at a0 x4_1
     replace p4 := eq_true p4
     replace q4 := eq_true q4
     go_wp2
     go_roundg k1
     case measure => have := HK1.out; omega
     case rel => exact ⟨(Go.bits .and .i64 (wrap64 ((Go.bits .xor .i64 x3_1 (wrap64 (bt a0 x4_1))) * 16777619)) 4294967295), (wrap64 (x4_1 + 1)), rs_, rs_, H', ⟨by have := HK1.out; omega⟩, by repeat (first | exact Drawn0.refl _ | apply Drawn0.step)⟩
    ·rw [if_neg c3] at H
     exact absurd H (by simp)
   ·rw [if_neg c2] at H; have c2b0 : decide (x4_1 < (a0.size : Int)) = false := decide_eq_false c2; clear c2
    obtain rfl := Option.some.inj H
    go_wp2
    go_ret
    exact ⟨rs_, by repeat (first | exact Drawn0.refl _ | apply Drawn0.step)⟩

/-! ### spec_PlainOk: function 65 -/
def spec_PlainOk.l0 : Nat → ByteArray → Int → Option (Bool)
 | 0, _, _ => none
 | k + 1, x0, x3 => if x3 < (x0.size : Int) then (if 0 ≤ x3 then (if (bt x0 x3) < 32 then (some false) else (if (bt x0 x3) > 126 then (some false) else (if (bt x0 x3) = 34 then (some false) else (if (bt x0 x3) = 92 then (some false) else (spec_PlainOk.l0 k x0 (wrap64 (x3 + 1))))))) else (none)) else (some (decide ((x0.size : Int) ≤ 12)))
def spec_PlainOk.f (k : Nat) (a0 : ByteArray) : Option (Bool) := spec_PlainOk.l0 k a0 0
theorem spec_PlainOk.calls (k : Nat) (a0 : ByteArray) (r : Bool) (w : World) (h : spec_PlainOk.f k a0 = some r) :
  Calls Try.prog 65 #[.string a0] w fun e w' => e = .returned (.bool r) ∧ Drawn0 w w' := by
 have H : (spec_PlainOk.l0 k a0 0) = some r := h
 clear h
 have H' := aM H
 clear H
 go_enter Try.func65, Try.ntmps65
 go_wp2
 go_loopg [3] k (fun kq v3 w' => ∃ (x3_1 : Int), v3 = .int .i64 x3_1 ∧ Aside0 (spec_PlainOk.l0 kq a0 x3_1 = some r) ∧ Aside0 (kq ≤ k) ∧ Drawn0 w w')
 case atStart => exact ⟨(0), rs_, H', ⟨Nat.le_refl _⟩, by repeat (first | exact Drawn0.refl _ | apply Drawn0.step)⟩
 case round =>
  clear H'
  obtain ⟨x3_1, rfl, HA, HK1, ⟨m1, rfl⟩⟩ := hrel
  cases gk with
  | zero => exact absurd HA.out (by simp [spec_PlainOk.l0])
  | succ k1 =>
   have H := HA.out
   clear HA
   simp only [spec_PlainOk.l0] at H
   by_cases c2 : x3_1 < (a0.size : Int)
   ·rw [if_pos c2] at H; have c2b0 : decide (x3_1 < (a0.size : Int)) = true := decide_eq_true c2; clear c2
    by_cases c3 : 0 ≤ x3_1
    ·rw [if_pos c3] at H; have c3b0 : decide (0 ≤ x3_1) = true := decide_eq_true c3; clear c3
     by_cases c5 : (bt a0 x3_1) < 32
     ·rw [if_pos c5] at H; have c5b0 : decide ((bt a0 x3_1) < 32) = true := decide_eq_true c5; clear c5
      obtain rfl := Option.some.inj H
      have p4 : 0 ≤ (x3_1 : Int) := of_decide_eq_true as_
      have q4 : x3_1 < (a0.size : Int) := of_decide_eq_true as_
      have hx4 := bt_at a0 x3_1
      replace p4 := eq_true p4
      replace q4 := eq_true q4
      go_wp2
      go_ret
      exact ⟨rs_, by repeat (first | exact Drawn0.refl _ | apply Drawn0.step)⟩
     ·rw [if_neg c5] at H; have c5b0 : decide ((bt a0 x3_1) < 32) = false := decide_eq_false c5; clear c5
      by_cases c7 : (bt a0 x3_1) > 126
      ·rw [if_pos c7] at H; have c7b0 : decide (126 < (bt a0 x3_1)) = true := decide_eq_true c7; clear c7
       obtain rfl := Option.some.inj H
       have p4 : 0 ≤ (x3_1 : Int) := of_decide_eq_true as_
       have q4 : x3_1 < (a0.size : Int) := of_decide_eq_true as_
       have hx4 := bt_at a0 x3_1
       replace p4 := eq_true p4
       replace q4 := eq_true q4
       have p6 : 0 ≤ (x3_1 : Int) := of_decide_eq_true as_
       have q6 : x3_1 < (a0.size : Int) := of_decide_eq_true as_
       have hx6 := bt_at a0 x3_1
       replace p6 := eq_true p6
       replace q6 := eq_true q6
       go_wp2
       go_ret
       exact ⟨rs_, by repeat (first | exact Drawn0.refl _ | apply Drawn0.step)⟩
      ·rw [if_neg c7] at H; have c7b0 : decide (126 < (bt a0 x3_1)) = false := decide_eq_false c7; clear c7
       by_cases c9 : (bt a0 x3_1) = 34
       ·rw [if_pos c9] at H
        have c9b0 : ((bt a0 x3_1) == 34) = true := beq_iff_eq.mpr c9
        have c9b1 : ((bt a0 x3_1) != 34) = false := bne_eq_false_iff_eq.mpr c9
        clear c9
        obtain rfl := Option.some.inj H
        have p4 : 0 ≤ (x3_1 : Int) := of_decide_eq_true as_
        have q4 : x3_1 < (a0.size : Int) := of_decide_eq_true as_
        have hx4 := bt_at a0 x3_1
        replace p4 := eq_true p4
        replace q4 := eq_true q4
        have p6 : 0 ≤ (x3_1 : Int) := of_decide_eq_true as_
        have q6 : x3_1 < (a0.size : Int) := of_decide_eq_true as_
        have hx6 := bt_at a0 x3_1
        replace p6 := eq_true p6
        replace q6 := eq_true q6
        have p8 : 0 ≤ (x3_1 : Int) := of_decide_eq_true as_
        have q8 : x3_1 < (a0.size : Int) := of_decide_eq_true as_
        have hx8 := bt_at a0 x3_1
        replace p8 := eq_true p8
        replace q8 := eq_true q8
        go_wp2
        go_ret
        exact ⟨rs_, by repeat (first | exact Drawn0.refl _ | apply Drawn0.step)⟩
       ·rw [if_neg c9] at H
        have c9b0 : ((bt a0 x3_1) == 34) = false := beq_eq_false_iff_ne.mpr c9
        have c9b1 : ((bt a0 x3_1) != 34) = true := bne_iff_ne.mpr c9
        by_cases c11 : (bt a0 x3_1) = 92
        ·rw [if_pos c11] at H
         have c11b0 : ((bt a0 x3_1) == 92) = true := beq_iff_eq.mpr c11
         have c11b1 : ((bt a0 x3_1) != 92) = false := bne_eq_false_iff_eq.mpr c11
         clear c11
         obtain rfl := Option.some.inj H
         have p4 : 0 ≤ (x3_1 : Int) := of_decide_eq_true as_
         have q4 : x3_1 < (a0.size : Int) := of_decide_eq_true as_
         have hx4 := bt_at a0 x3_1
         replace p4 := eq_true p4
         replace q4 := eq_true q4
         have p6 : 0 ≤ (x3_1 : Int) := of_decide_eq_true as_
         have q6 : x3_1 < (a0.size : Int) := of_decide_eq_true as_
         have hx6 := bt_at a0 x3_1
         replace p6 := eq_true p6
         replace q6 := eq_true q6
         have p8 : 0 ≤ (x3_1 : Int) := of_decide_eq_true as_
         have q8 : x3_1 < (a0.size : Int) := of_decide_eq_true as_
         have hx8 := bt_at a0 x3_1
         replace p8 := eq_true p8
         replace q8 := eq_true q8
         have p10 : 0 ≤ (x3_1 : Int) := of_decide_eq_true as_
         have q10 : x3_1 < (a0.size : Int) := of_decide_eq_true as_
         have hx10 := bt_at a0 x3_1
         replace p10 := eq_true p10
         replace q10 := eq_true q10
         go_wp2
         go_ret
         exact ⟨rs_, by repeat (first | exact Drawn0.refl _ | apply Drawn0.step)⟩
        ·rw [if_neg c11] at H
         have c11b0 : ((bt a0 x3_1) == 92) = false := beq_eq_false_iff_ne.mpr c11
         have c11b1 : ((bt a0 x3_1) != 92) = true := bne_iff_ne.mpr c11
         have H' := aM H
         clear H
         have p4 : 0 ≤ (x3_1 : Int) := of_decide_eq_true as_
         have q4 : x3_1 < (a0.size : Int) := of_decide_eq_true as_
         have hx4 := bt_at a0 x3_1
         replace p4 := eq_true p4
         replace q4 := eq_true q4
         have p6 : 0 ≤ (x3_1 : Int) := of_decide_eq_true as_
         have q6 : x3_1 < (a0.size : Int) := of_decide_eq_true as_
         have hx6 := bt_at a0 x3_1
         replace p6 := eq_true p6
         replace q6 := eq_true q6
         have p8 : 0 ≤ (x3_1 : Int) := of_decide_eq_true as_
         have q8 : x3_1 < (a0.size : Int) := of_decide_eq_true as_
         have hx8 := bt_at a0 x3_1
         replace p8 := eq_true p8
         replace q8 := eq_true q8
         have p10 : 0 ≤ (x3_1 : Int) := of_decide_eq_true as_
         have q10 : x3_1 < (a0.size : Int) := of_decide_eq_true as_
         have hx10 := bt_at a0 x3_1
         replace p10 := eq_true p10
         replace q10 := eq_true q10
         go_wp2
         go_roundg k1
         case measure => have := HK1.out; omega
         case rel => exact ⟨(wrap64 (x3_1 + 1)), rs_, H', ⟨by have := HK1.out; omega⟩, by repeat (first | exact Drawn0.refl _ | apply Drawn0.step)⟩
    ·rw [if_neg c3] at H
     exact absurd H (by simp)
   ·rw [if_neg c2] at H; have c2b0 : decide (x3_1 < (a0.size : Int)) = false := decide_eq_false c2; clear c2
    obtain rfl := Option.some.inj H
    go_wp2
    go_ret
    exact ⟨rs_, by repeat (first | exact Drawn0.refl _ | apply Drawn0.step)⟩

/-! ### spec_l1In: function 64 -/
def spec_l1In.f (a0 : Int) (a1 : Int) (a2 : Int) : Option (Bool) := if a0 ≥ a1 then (some (decide (a0 ≤ a2))) else (some false)
theorem spec_l1In.calls (a0 : Int) (a1 : Int) (a2 : Int) (r : Bool) (w : World) (h : spec_l1In.f a0 a1 a2 = some r) :
  Calls Try.prog 64 #[.int .i64 a0, .int .i64 a1, .int .i64 a2] w fun e w' => e = .returned (.bool r) ∧ Drawn0 w w' := by
 have H : (if a0 ≥ a1 then (some (decide (a0 ≤ a2))) else (some false)) = some r := h
 clear h
 by_cases c4 : a0 ≥ a1
 ·rw [if_pos c4] at H; have c4b0 : decide (a1 ≤ a0) = true := decide_eq_true c4; clear c4
  obtain rfl := Option.some.inj H
  go_enter Try.func64, Try.ntmps64
  go_wp2
  go_ret
  exact ⟨rs_, by repeat (first | exact Drawn0.refl _ | apply Drawn0.step)⟩
 ·rw [if_neg c4] at H; have c4b0 : decide (a1 ≤ a0) = false := decide_eq_false c4; clear c4
  obtain rfl := Option.some.inj H
  go_enter Try.func64, Try.ntmps64
  go_wp2
  go_ret
  exact ⟨rs_, by repeat (first | exact Drawn0.refl _ | apply Drawn0.step)⟩

end Go.Proofs.Ytdhignbneeapiaa.PFnChains
