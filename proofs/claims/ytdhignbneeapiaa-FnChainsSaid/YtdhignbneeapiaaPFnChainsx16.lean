/- What the Go functions that FnChains reaches compute, as Lean functions, and that the machine's calls do so; no conditions. -/
import Derived.Test.YtdhignbneeapiaaPFnChainsx0
import Derived.Test.YtdhignbneeapiaaPFnChainsx10
import Derived.Test.YtdhignbneeapiaaPFnChainsx14
import Derived.Test.YtdhignbneeapiaaPFnChainsx15
namespace Go.Proofs.Ytdhignbneeapiaa.PFnChains
open Go.Proofs.Ytdhignbneeapiaa
open Go.RowKit Go.Proofs.YtdhignbneeapiaaW.PrintWords Go.Proofs.YtdhignbneeapiaaW.PrintLast Go.Proofs.YtdhignbneeapiaaW.PrintMore
attribute [local go_sem] max2_int min2_int max_two min_two max_three min_three max_four min_four   -- for this text's walks alone
set_option linter.unusedVariables false
set_option linter.unusedSimpArgs false
set_option maxHeartbeats 8000000
set_option maxRecDepth 100000

/-! ### impl_AlarmOk: function 38 -/
def impl_AlarmOk.f (k : Nat) (l0_0 : List (S76)) (a0_1 : Int) (a0_2 : Int) (a0_3 : ByteArray) : Option (Bool) := if (l0_0.length : Int) > 0 then ((impl_SetOk.f k l0_0).bind fun t715 => (if t715 = true then ((impl_in.f a0_1 0 99999).bind fun t716 => (if t716 = true then ((impl_in.f a0_2 a0_1 99999).bind fun t717 => (if t717 = true then ((impl_PlainOk.f k a0_3).bind fun t718 => (some t718)) else (some false))) else (some false))) else (some false))) else (some false)
theorem impl_AlarmOk.calls (k : Nat) (A0_0 : Option Addr) (c0_0 : Nat) (l0_0 : List (S76)) (a0_1 : Int) (a0_2 : Int) (a0_3 : ByteArray) (r : Bool) (w : World) (hr0_0 : Kd.C k76 w A0_0 l0_0.length l0_0) (hc0_0 : l0_0.length ≤ c0_0) (h : impl_AlarmOk.f k l0_0 a0_1 a0_2 a0_3 = some r) :
  Calls Try.prog 38 #[.agg #[.slice A0_0 l0_0.length c0_0, .int .i64 a0_1, .int .i64 a0_2, .string a0_3]] w fun e w' => e = .returned (.bool r) ∧ Below w.heap.size w w' := by
 have hu29 := Try.underlying29
 have HR0_0 := aM hr0_0
 have HC0_0 := aM hc0_0
 clear hr0_0 hc0_0
 have HB := aM (Below.refl w.heap.size w)
 have H : (if (l0_0.length : Int) > 0 then ((impl_SetOk.f k l0_0).bind fun t715 => (if t715 = true then ((impl_in.f a0_1 0 99999).bind fun t716 => (if t716 = true then ((impl_in.f a0_2 a0_1 99999).bind fun t717 => (if t717 = true then ((impl_PlainOk.f k a0_3).bind fun t718 => (some t718)) else (some false))) else (some false))) else (some false))) else (some false)) = some r := h
 clear h
 by_cases c2 : (l0_0.length : Int) > 0
 ·rw [if_pos c2] at H; have c2b0 : decide (0 < (l0_0.length : Int)) = true := decide_eq_true c2
  have c2b1 : decide (0 < l0_0.length) = true := decide_eq_true (by omega)
  clear c2; replace H := bs_ H; obtain ⟨t715, A30, H⟩ := H; try dsimp only at H
  have A3 := aM A30
  clear A30
  by_cases c4 : t715 = true
  ·subst c4
   have H1 : ((impl_in.f a0_1 0 99999).bind fun t716 => (if t716 = true then ((impl_in.f a0_2 a0_1 99999).bind fun t717 => (if t717 = true then ((impl_PlainOk.f k a0_3).bind fun t718 => (some t718)) else (some false))) else (some false))) = some r := by rw [if_pos rfl] at H; exact H
   clear H
   have H := H1
   clear H1; replace H := bs_ H; obtain ⟨t716, A50, H⟩ := H; try dsimp only at H
   have A5 := aM A50
   clear A50
   by_cases c6 : t716 = true
   ·subst c6
    have H1 : ((impl_in.f a0_2 a0_1 99999).bind fun t717 => (if t717 = true then ((impl_PlainOk.f k a0_3).bind fun t718 => (some t718)) else (some false))) = some r := by rw [if_pos rfl] at H; exact H
    clear H
    have H := H1
    clear H1; replace H := bs_ H; obtain ⟨t717, A70, H⟩ := H; try dsimp only at H
    have A7 := aM A70
    clear A70
    by_cases c8 : t717 = true
    ·subst c8
     have H1 : ((impl_PlainOk.f k a0_3).bind fun t718 => (some t718)) = some r := by rw [if_pos rfl] at H; exact H
     clear H
     have H := H1
     clear H1; replace H := bs_ H; obtain ⟨t718, A90, H⟩ := H; try dsimp only at H
     have A9 := aM A90
     clear A90
     obtain rfl := Option.some.inj H
     go_enter Try.func38, Try.ntmps38
     go_wp2_with (first | (refine be_ 1 #[.slice A0_0 l0_0.length c0_0, .int .i64 a0_1, .int .i64 a0_2, .string a0_3] 29 ?_; intro gb714 hg w10 hbox hb; have BK714 := aM (hbox); have GW714 := gw hg (bw HB); have GE714 := gw hg (bw HB); replace HB := aM (below_step (bw HB) hb); clear hb hbox hg; obtain ⟨hcz11_0, hcz11_1, hcz11_2, hcz11_3⟩ := zc4 BK714; have hfz11_0 := zf BK714) | (go_at_call 58; (with_reducible refine (impl_SetOk.calls k _ _ l0_0 true _ ?side1 ?side2 A3.out).mono ?_); (case side1 => exact cA (Kd.C_below HR0_0.out HB.out)); (case side2 => exact HC0_0.out); rintro e w12 ⟨rfl, hb⟩; replace BK714 := bb BK714 hb; replace HB := aM (below_step (bw HB) hb); (try clear hb); (try clear hb2); (try clear hk); (try clear hi); obtain ⟨hcz13_0, hcz13_1, hcz13_2, hcz13_3⟩ := zc4 BK714; have hfz13_0 := zf BK714) | (go_at_call 59; (with_reducible refine (impl_in.calls a0_1 0 99999 true _ A5.out).mono ?_); rintro e w' ⟨rfl, ⟨nd, rfl⟩⟩) | (go_at_call 59; (with_reducible refine (impl_in.calls a0_2 a0_1 99999 true _ A7.out).mono ?_); rintro e w' ⟨rfl, ⟨nd, rfl⟩⟩) | (go_at_call 60; (with_reducible refine (impl_PlainOk.calls k a0_3 t718 _ A9.out).mono ?_); rintro e w' ⟨rfl, ⟨nd, rfl⟩⟩))
     go_ret
     exact ⟨er, (bw HB)⟩
    ·replace c8 := Bool.eq_false_iff.mpr c8
     subst c8
     have H1 : (some false) = some r := by rw [if_neg (show ¬ (false = true) by decide)] at H; exact H
     clear H
     have H := H1
     clear H1
     obtain rfl := Option.some.inj H
     go_enter Try.func38, Try.ntmps38
     go_wp2_with (first | (refine be_ 1 #[.slice A0_0 l0_0.length c0_0, .int .i64 a0_1, .int .i64 a0_2, .string a0_3] 29 ?_; intro gb714 hg w14 hbox hb; have BK714 := aM (hbox); have GW714 := gw hg (bw HB); have GE714 := gw hg (bw HB); replace HB := aM (below_step (bw HB) hb); clear hb hbox hg; obtain ⟨hcz15_0, hcz15_1, hcz15_2, hcz15_3⟩ := zc4 BK714; have hfz15_0 := zf BK714) | (go_at_call 58; (with_reducible refine (impl_SetOk.calls k _ _ l0_0 true _ ?side1 ?side2 A3.out).mono ?_); (case side1 => exact cA (Kd.C_below HR0_0.out HB.out)); (case side2 => exact HC0_0.out); rintro e w16 ⟨rfl, hb⟩; replace BK714 := bb BK714 hb; replace HB := aM (below_step (bw HB) hb); (try clear hb); (try clear hb2); (try clear hk); (try clear hi); obtain ⟨hcz17_0, hcz17_1, hcz17_2, hcz17_3⟩ := zc4 BK714; have hfz17_0 := zf BK714) | (go_at_call 59; (with_reducible refine (impl_in.calls a0_1 0 99999 true _ A5.out).mono ?_); rintro e w' ⟨rfl, ⟨nd, rfl⟩⟩) | (go_at_call 59; (with_reducible refine (impl_in.calls a0_2 a0_1 99999 false _ A7.out).mono ?_); rintro e w' ⟨rfl, ⟨nd, rfl⟩⟩))
     go_ret
     exact ⟨er, (bw HB)⟩
   ·replace c6 := Bool.eq_false_iff.mpr c6
    subst c6
    have H1 : (some false) = some r := by rw [if_neg (show ¬ (false = true) by decide)] at H; exact H
    clear H
    have H := H1
    clear H1
    obtain rfl := Option.some.inj H
    go_enter Try.func38, Try.ntmps38
    go_wp2_with (first | (refine be_ 1 #[.slice A0_0 l0_0.length c0_0, .int .i64 a0_1, .int .i64 a0_2, .string a0_3] 29 ?_; intro gb714 hg w18 hbox hb; have BK714 := aM (hbox); have GW714 := gw hg (bw HB); have GE714 := gw hg (bw HB); replace HB := aM (below_step (bw HB) hb); clear hb hbox hg; obtain ⟨hcz19_0, hcz19_1, hcz19_2, hcz19_3⟩ := zc4 BK714; have hfz19_0 := zf BK714) | (go_at_call 58; (with_reducible refine (impl_SetOk.calls k _ _ l0_0 true _ ?side1 ?side2 A3.out).mono ?_); (case side1 => exact cA (Kd.C_below HR0_0.out HB.out)); (case side2 => exact HC0_0.out); rintro e w20 ⟨rfl, hb⟩; replace BK714 := bb BK714 hb; replace HB := aM (below_step (bw HB) hb); (try clear hb); (try clear hb2); (try clear hk); (try clear hi); obtain ⟨hcz21_0, hcz21_1, hcz21_2, hcz21_3⟩ := zc4 BK714; have hfz21_0 := zf BK714) | (go_at_call 59; (with_reducible refine (impl_in.calls a0_1 0 99999 false _ A5.out).mono ?_); rintro e w' ⟨rfl, ⟨nd, rfl⟩⟩))
    go_ret
    exact ⟨er, (bw HB)⟩
  ·replace c4 := Bool.eq_false_iff.mpr c4
   subst c4
   have H1 : (some false) = some r := by rw [if_neg (show ¬ (false = true) by decide)] at H; exact H
   clear H
   have H := H1
   clear H1
   obtain rfl := Option.some.inj H
   go_enter Try.func38, Try.ntmps38
   go_wp2_with (first | (refine be_ 1 #[.slice A0_0 l0_0.length c0_0, .int .i64 a0_1, .int .i64 a0_2, .string a0_3] 29 ?_; intro gb714 hg w22 hbox hb; have BK714 := aM (hbox); have GW714 := gw hg (bw HB); have GE714 := gw hg (bw HB); replace HB := aM (below_step (bw HB) hb); clear hb hbox hg; obtain ⟨hcz23_0, hcz23_1, hcz23_2, hcz23_3⟩ := zc4 BK714; have hfz23_0 := zf BK714) | (go_at_call 58; (with_reducible refine (impl_SetOk.calls k _ _ l0_0 false _ ?side1 ?side2 A3.out).mono ?_); (case side1 => exact cA (Kd.C_below HR0_0.out HB.out)); (case side2 => exact HC0_0.out); rintro e w24 ⟨rfl, hb⟩; replace BK714 := bb BK714 hb; replace HB := aM (below_step (bw HB) hb); (try clear hb); (try clear hb2); (try clear hk); (try clear hi)))
   go_ret
   exact ⟨er, (bw HB)⟩
 ·rw [if_neg c2] at H; have c2b0 : decide (0 < (l0_0.length : Int)) = false := decide_eq_false c2
  have c2b1 : decide (0 < l0_0.length) = false := decide_eq_false (by omega)
  clear c2
  obtain rfl := Option.some.inj H
  go_enter Try.func38, Try.ntmps38
  go_wp2_with (first | (refine be_ 1 #[.slice A0_0 l0_0.length c0_0, .int .i64 a0_1, .int .i64 a0_2, .string a0_3] 29 ?_; intro gb714 hg w25 hbox hb; have BK714 := aM (hbox); have GW714 := gw hg (bw HB); have GE714 := gw hg (bw HB); replace HB := aM (below_step (bw HB) hb); clear hb hbox hg; obtain ⟨hcz26_0, hcz26_1, hcz26_2, hcz26_3⟩ := zc4 BK714; have hfz26_0 := zf BK714))
  go_ret
  exact ⟨er, (bw HB)⟩

/-! ### impl_Sum: function 61 -/
def impl_Sum.l0 : Nat → ByteArray → Int → Int → Option (Int)
 | 0, _, _, _ => none
 | k + 1, x0, x3, x4 => if x4 < (x0.size : Int) then (if 0 ≤ x4 then (impl_Sum.l0 k x0 (((Go.bits .xor .u32 x3 ((bt x0 x4) % 4294967296)) * 16777619) % 4294967296) (wrap64 (x4 + 1))) else (none)) else (some (wrap64 (x3)))
def impl_Sum.f (k : Nat) (a0 : ByteArray) : Option (Int) := impl_Sum.l0 k a0 2166136261 0
theorem impl_Sum.calls (k : Nat) (a0 : ByteArray) (r : Int) (w : World) (h : impl_Sum.f k a0 = some r) :
  Calls Try.prog 61 #[.string a0] w fun e w' => e = .returned (.int .i64 r) ∧ Drawn0 w w' := by
 have H : (impl_Sum.l0 k a0 2166136261 0) = some r := h
 clear h
 have H' := aM H
 clear H
 go_enter Try.func61, Try.ntmps61
 go_wp2
 go_loopg [3, 4] k (fun kq v3 v4 w' => ∃ (x3_1 : Int) (x4_1 : Int), v3 = .int .u32 x3_1 ∧ v4 = .int .i64 x4_1 ∧ Aside0 (impl_Sum.l0 kq a0 x3_1 x4_1 = some r) ∧ Aside0 (kq ≤ k) ∧ Drawn0 w w')
 case atStart => exact ⟨(2166136261), (0), rs_, rs_, H', ⟨Nat.le_refl _⟩, by repeat (first | exact Drawn0.refl _ | apply Drawn0.step)⟩
 case round =>
  clear H'
  obtain ⟨x3_1, x4_1, rfl, rfl, HA, HK1, ⟨m1, rfl⟩⟩ := hrel
  cases gk with
  | zero => exact absurd HA.out (by simp [impl_Sum.l0])
  | succ k1 =>
   have H := HA.out
   clear HA
   simp only [impl_Sum.l0] at H
   by_cases c2 : x4_1 < (a0.size : Int)
   ·rw [if_pos c2] at H; have c2b0 : decide (x4_1 < (a0.size : Int)) = true := decide_eq_true c2; clear c2
    by_cases c3 : 0 ≤ x4_1
    ·rw [if_pos c3] at H; have c3b0 : decide (0 ≤ x4_1) = true := decide_eq_true c3; clear c3
     have H' := aM H
     clear H
     have p4 : 0 ≤ (x4_1 : Int) := of_decide_eq_true as_
     have q4 : x4_1 < (a0.size : Int) := of_decide_eq_true as_
     have hx4 := bt_at a0 x4_1
     replace p4 := eq_true p4
     replace q4 := eq_true q4
     go_wp2
     go_roundg k1
     case measure => have := HK1.out; omega
     case rel => exact ⟨(((Go.bits .xor .u32 x3_1 ((bt a0 x4_1) % 4294967296)) * 16777619) % 4294967296), (wrap64 (x4_1 + 1)), rs_, rs_, H', ⟨by have := HK1.out; omega⟩, by repeat (first | exact Drawn0.refl _ | apply Drawn0.step)⟩
    ·rw [if_neg c3] at H
     exact absurd H (by simp)
   ·rw [if_neg c2] at H; have c2b0 : decide (x4_1 < (a0.size : Int)) = false := decide_eq_false c2; clear c2
    obtain rfl := Option.some.inj H
    go_wp2
    go_ret
    exact ⟨rs_, by repeat (first | exact Drawn0.refl _ | apply Drawn0.step)⟩

/-! ### strings_Join: function 73 (a contract of the shelf) -/
def strings_Join.f (l0 : List ByteArray) (a1 : ByteArray) : Option (ByteArray) := Foreign.joinOf l0 a1
theorem strings_Join.calls (A0 : Option Addr) (c0 : Nat) (l0 : List ByteArray) (a1 : ByteArray) (r : ByteArray) (w : World) (hr0 : Kd.C Kd.string w A0 l0.length l0) (hc0 : l0.length ≤ c0) (h : strings_Join.f l0 a1 = some r) :
  Calls Try.prog 73 #[.slice A0 l0.length c0, .string a1] w fun e w' => e = .returned (.string r) ∧ Below w.heap.size w w' :=
 Foreign.join_calls A0 c0 l0 a1 r w hr0 hc0 h

/-! ### impl_SetText: function 62 -/
def impl_SetText.l0 : Nat → List ByteArray → List (S76) → Int → Int → Option (ByteArray)
 | 0, _, _, _, _ => none
 | k + 1, x3, x9, x10, x11 => if x11 < x10 then (if 0 ≤ x11 then (if x11 < (x9.length : Int) then (if ((rd_T76 x9 x11).f0).size + 2 ≤ 9223372036854775807 then (if (((rd_T76 x9 x11).f0) ++ (⟨#[61, 34]⟩ : ByteArray)).size + ((rd_T76 x9 x11).f1).size ≤ 9223372036854775807 then (if ((((rd_T76 x9 x11).f0) ++ (⟨#[61, 34]⟩ : ByteArray)) ++ ((rd_T76 x9 x11).f1)).size + 1 ≤ 9223372036854775807 then (if x3.length < 8796093022208 then (impl_SetText.l0 k (x3 ++ [((((rd_T76 x9 x11).f0) ++ (⟨#[61, 34]⟩ : ByteArray)) ++ ((rd_T76 x9 x11).f1)) ++ (⟨#[34]⟩ : ByteArray)]) x9 x10 (wrap64 (x11 + 1))) else (none)) else (none)) else (none)) else (none)) else (none)) else (none)) else ((strings_Join.f x3 (⟨#[44, 32]⟩ : ByteArray)).bind fun t725 => (if 1 + t725.size ≤ 9223372036854775807 then (if ((⟨#[123]⟩ : ByteArray) ++ t725).size + 1 ≤ 9223372036854775807 then (some (((⟨#[123]⟩ : ByteArray) ++ t725) ++ (⟨#[125]⟩ : ByteArray))) else (none)) else (none)))
def impl_SetText.f (k : Nat) (l0 : List (S76)) : Option (ByteArray) := (impl_SetOk.f k l0).bind fun t719 => (if t719 = true then (impl_SetText.l0 k ([] : List ByteArray) l0 (l0.length : Int) 0) else (some (⟨#[]⟩ : ByteArray)))
theorem impl_SetText.calls (k : Nat) (A0 : Option Addr) (c0 : Nat) (l0 : List (S76)) (r : ByteArray) (w : World) (hr0 : Kd.C k76 w A0 l0.length l0) (hc0 : l0.length ≤ c0) (h : impl_SetText.f k l0 = some r) :
  Calls Try.prog 62 #[.slice A0 l0.length c0] w fun e w' => e = .returned (.string r) ∧ Below w.heap.size w w' := by
 have hu76 := Try.underlying76
 have HR0 := aM hr0
 have HC0 := aM hc0
 clear hr0 hc0
 have HB := aM (Below.refl w.heap.size w)
 have H : ((impl_SetOk.f k l0).bind fun t719 => (if t719 = true then (impl_SetText.l0 k ([] : List ByteArray) l0 (l0.length : Int) 0) else (some (⟨#[]⟩ : ByteArray)))) = some r := h
 clear h; replace H := bs_ H; obtain ⟨t719, A20, H⟩ := H; try dsimp only at H
 have A2 := aM A20
 clear A20
 by_cases c3 : t719 = true
 ·subst c3
  have H1 : (impl_SetText.l0 k ([] : List ByteArray) l0 (l0.length : Int) 0) = some r := by rw [if_pos rfl] at H; exact H
  clear H
  have H := H1
  clear H1
  have H' := aM H
  clear H
  go_enter Try.func62, Try.ntmps62
  go_wp2_with (first | (refine gl_ (some 7) Try.func58 #[.slice A0 l0.length c0] ?_; (with_reducible refine (impl_SetOk.calls k _ _ l0 true _ ?side1 ?side2 A2.out).mono ?_); (case side1 => exact cA HR0.out); (case side2 => exact HC0.out); rintro e w4 ⟨rfl, hb⟩; refine ⟨_, rfl, ?_⟩; replace HB := aM (below_step (bw HB) hb); (try clear hb); (try clear hb2); (try clear hk); (try clear hi)))
  go_loopg [3, 11] k (fun kq v3 v11 w' => ∃ (x3_1 : List ByteArray) (x11_1 : Int), v11 = .int .i64 x11_1 ∧ Aside0 (impl_SetText.l0 kq x3_1 l0 (l0.length : Int) x11_1 = some r) ∧ Aside0 (kq ≤ k) ∧ Aside0 (Kd.R Kd.string 9 w' w.heap.size (fun _ => True) v3 x3_1) ∧ Aside0 (Below w.heap.size w w'))
  case atStart => exact ⟨(([] : List ByteArray)), (0), rs_, H', ⟨Nat.le_refl _⟩, ⟨by first | exact Kd.R_nil _ _ _ _ _ | exact Kd.N_nil _ _ _ _ _ | exact Kd.V_nil _ _ _ _ _ | exact Kd.Q_nil _ _ _ _ _ | exact Kd.S_nil _ _ _ _ _⟩, ⟨(bw HB)⟩⟩
  case round =>
   clear H'
   try clear p2
   try clear c3
   obtain ⟨x3_1, x11_1, rfl, HA, HK1, HO_3, HB⟩ := hrel
   cases gk with
   | zero => exact absurd HA.out (by simp [impl_SetText.l0])
   | succ k1 =>
    have H := HA.out
    clear HA
    simp only [impl_SetText.l0] at H
    by_cases c5 : x11_1 < (l0.length : Int)
    ·rw [if_pos c5] at H; have c5b0 : decide (x11_1 < (l0.length : Int)) = true := decide_eq_true c5; clear c5
     by_cases c6 : 0 ≤ x11_1
     ·rw [if_pos c6] at H; have c6b0 : decide (0 ≤ x11_1) = true := decide_eq_true c6; clear c6
      by_cases c7 : x11_1 < (l0.length : Int)
      ·rw [if_pos c7] at H; have c7b0 : decide (x11_1 < (l0.length : Int)) = true := decide_eq_true c7; clear c7
       by_cases c8 : ((rd_T76 l0 x11_1).f0).size + 2 ≤ 9223372036854775807
       ·rw [if_pos c8] at H
        have c8b0 := eq_true c8
        have c8b1 : decide (((rd_T76 l0 x11_1).f0).size + 2 ≤ 9223372036854775807) = true := decide_eq_true c8
        try have c8b2 : (9223372036854775807 < ((rd_T76 l0 x11_1).f0).size + 2) = False := eq_false (Nat.not_lt.2 c8)
        by_cases c9 : (((rd_T76 l0 x11_1).f0) ++ (⟨#[61, 34]⟩ : ByteArray)).size + ((rd_T76 l0 x11_1).f1).size ≤ 9223372036854775807
        ·rw [if_pos c9] at H
         have c9b0 := eq_true c9
         have c9b1 : decide ((((rd_T76 l0 x11_1).f0) ++ (⟨#[61, 34]⟩ : ByteArray)).size + ((rd_T76 l0 x11_1).f1).size ≤ 9223372036854775807) = true := decide_eq_true c9
         try have c9b2 : (9223372036854775807 < (((rd_T76 l0 x11_1).f0) ++ (⟨#[61, 34]⟩ : ByteArray)).size + ((rd_T76 l0 x11_1).f1).size) = False := eq_false (Nat.not_lt.2 c9)
         try (have c9b3 := c9b2; simp only [ByteArray.size_append', ByteArray.size_mk', List.size_toArray, List.length_cons, List.length_nil, Nat.reduceAdd, Nat.zero_add] at c9b3)
         by_cases c10 : ((((rd_T76 l0 x11_1).f0) ++ (⟨#[61, 34]⟩ : ByteArray)) ++ ((rd_T76 l0 x11_1).f1)).size + 1 ≤ 9223372036854775807
         ·rw [if_pos c10] at H
          have c10b0 := eq_true c10
          have c10b1 : decide (((((rd_T76 l0 x11_1).f0) ++ (⟨#[61, 34]⟩ : ByteArray)) ++ ((rd_T76 l0 x11_1).f1)).size + 1 ≤ 9223372036854775807) = true := decide_eq_true c10
          try have c10b2 : (9223372036854775807 < ((((rd_T76 l0 x11_1).f0) ++ (⟨#[61, 34]⟩ : ByteArray)) ++ ((rd_T76 l0 x11_1).f1)).size + 1) = False := eq_false (Nat.not_lt.2 c10)
          try (have c10b3 := c10b2; simp only [ByteArray.size_append', ByteArray.size_mk', List.size_toArray, List.length_cons, List.length_nil, Nat.reduceAdd, Nat.zero_add] at c10b3)
          by_cases c11 : x3_1.length < 8796093022208
          ·rw [if_pos c11] at H
           have LMc11 := aM c11
           clear c11
           obtain ⟨y722, hy722⟩ : ∃ y_ : List ByteArray, y_ = (x3_1 ++ [((((rd_T76 l0 x11_1).f0) ++ (⟨#[61, 34]⟩ : ByteArray)) ++ ((rd_T76 l0 x11_1).f1)) ++ (⟨#[34]⟩ : ByteArray)]) := ⟨_, rfl⟩
           replace H : (impl_SetText.l0 k1 y722 l0 (l0.length : Int) (wrap64 (x11_1 + 1))) = some r := by first | (rw [hy722]; exact H) | exact H
           have Ny722 := aM hy722
           clear hy722
           have H' := aM H
           clear H
           have p720 : 0 ≤ (x11_1 : Int) := of_decide_eq_true as_
           have q720 : x11_1 < (l0.length : Int) := of_decide_eq_true as_
           obtain ⟨ad720, e720, hx720_0, hx720_1⟩ := at_T76 HR0.out x11_1 p720 q720
           cases e720
           replace hx720_0 := cb HB hx720_0
           replace hx720_1 := cb HB hx720_1
           replace p720 := eq_true p720
           replace q720 := eq_true q720
           go_wp2_with (first | (refine be_ 5 #[.string (⟨#[]⟩ : ByteArray), .string (⟨#[]⟩ : ByteArray)] 76 ?_; intro gb721 hg w12 hbox hb; replace HO_3 := rb HO_3 hb; have BK721 := aM (hbox); have GW721 := gw hg (bw HB); have GE721 := gw hg (bw HB); replace HB := aM (below_step (bw HB) hb); clear hb hbox hg; obtain ⟨hcz13_0, hcz13_1⟩ := zc2 BK721; have hfz13_0 := zf BK721) | ((with_reducible refine gate_builtin (b := .append) (xs := #[.tmp 15, .tmp 23]) rfl ?_); at_builtin; refine Kd.R_append Kd.string (w0 := w) w.heap.size rfl (.tmp 15) (.tmp 23) 74 9 (.string ⟨#[]⟩) 16 rfl Try.underlying74 info9 rfl (by decide) (by omega) u3 x3_1 (((((rd_T76 l0 x11_1).f0) ++ (⟨#[61, 34]⟩ : ByteArray)) ++ ((rd_T76 l0 x11_1).f1)) ++ (⟨#[34]⟩ : ByteArray)) [.string (((((rd_T76 l0 x11_1).f0) ++ (⟨#[61, 34]⟩ : ByteArray)) ++ ((rd_T76 l0 x11_1).f1)) ++ (⟨#[34]⟩ : ByteArray))] (fun _ => True) (fun _ => False) rfl (by first | (go_simp; done) | (go_simp; rfl)) ?aP (fun _ hk => hk.elim) ?aF ?aO ?aB ?aS ?aL ?_; (case aP => exact rfl); (case aB => exact (bw HB)); (case aF => exact (fun _ _ => trivial)); (case aO => exact (by (with_reducible repeat (first | apply aR1 | apply aR2 | apply aR3)); exact Kd.R_mono (Kd.R_far (p := ⟨gb721, 1, none⟩) (Kd.R_far (p := ⟨gb721, 0, none⟩) (Kd.R_types HO_3.out BK721.out (by decide)) (fun _ hk => hk.2) (.string ((rd_T76 l0 x11_1).f0))) (fun _ hk => hk.2) (.string ((rd_T76 l0 x11_1).f1))) (fun _ hk => trivial))); (case aS => exact (below_size (bw HB))); (case aL => have := LMc11.out; omega); intro v723 w14 ho hb hg hat; rw [← Ny722.out] at ho; replace BK721 := aM (blk_grown (g := gb721) (o := .cells #[.string ((rd_T76 l0 x11_1).f0), .string ((rd_T76 l0 x11_1).f1)] 76 (0, 0)) (by refine blk_put (cs := #[.string ((rd_T76 l0 x11_1).f0), .string (⟨#[]⟩ : ByteArray)]) ?_ 1 _ rfl; refine blk_put (cs := #[.string (⟨#[]⟩ : ByteArray), .string (⟨#[]⟩ : ByteArray)]) ?_ 0 _ rfl; exact aB BK721) hg (Kd.R_ne HO_3.out BK721.out (by decide))); replace HB := aM (hb); have HO724 := aM (ho); clear HO_3 ho hb hg hat))
           go_roundg k1
           case measure => have := HK1.out; omega
           case rel => exact ⟨(y722), (wrap64 (x11_1 + 1)), rs_, H', ⟨by have := HK1.out; omega⟩, ⟨by (with_reducible repeat (first | apply aR1 | apply aR2 | apply aR3)); exact HO724.out⟩, ⟨(bw HB)⟩⟩
          ·rw [if_neg c11] at H
           exact absurd H (by simp)
         ·rw [if_neg c10] at H
          exact absurd H (by simp)
        ·rw [if_neg c9] at H
         exact absurd H (by simp)
       ·rw [if_neg c8] at H
        exact absurd H (by simp)
      ·rw [if_neg c7] at H
       exact absurd H (by simp)
     ·rw [if_neg c6] at H
      exact absurd H (by simp)
    ·rw [if_neg c5] at H; have c5b0 : decide (x11_1 < (l0.length : Int)) = false := decide_eq_false c5; clear c5; replace H := bs_ H; obtain ⟨t725, A150, H⟩ := H; try dsimp only at H
     have A15 := aM A150
     clear A150
     by_cases c16 : 1 + t725.size ≤ 9223372036854775807
     ·rw [if_pos c16] at H
      have c16b0 := eq_true c16
      have c16b1 : decide (1 + t725.size ≤ 9223372036854775807) = true := decide_eq_true c16
      try have c16b2 : (9223372036854775807 < 1 + t725.size) = False := eq_false (Nat.not_lt.2 c16)
      by_cases c17 : ((⟨#[123]⟩ : ByteArray) ++ t725).size + 1 ≤ 9223372036854775807
      ·rw [if_pos c17] at H
       have c17b0 := eq_true c17
       have c17b1 : decide (((⟨#[123]⟩ : ByteArray) ++ t725).size + 1 ≤ 9223372036854775807) = true := decide_eq_true c17
       try have c17b2 : (9223372036854775807 < ((⟨#[123]⟩ : ByteArray) ++ t725).size + 1) = False := eq_false (Nat.not_lt.2 c17)
       try (have c17b3 := c17b2; simp only [ByteArray.size_append', ByteArray.size_mk', List.size_toArray, List.length_cons, List.length_nil, Nat.reduceAdd, Nat.zero_add] at c17b3)
       obtain rfl := Option.some.inj H
       obtain ⟨Ao18, co18, eo18⟩ := Kd.R_slice HO_3.out
       subst eo18
       go_wp2_with (first | (refine gl_ (some 27) Try.func73 #[.slice Ao18 x3_1.length co18, .string (⟨#[44, 32]⟩ : ByteArray)] ?_; (with_reducible refine (strings_Join.calls _ _ x3_1 (⟨#[44, 32]⟩ : ByteArray) t725 _ ?side1 ?side2 A15.out).mono ?_); (case side1 => exact cA ((Kd.R_reads' HO_3.out).2.2)); (case side2 => exact (Kd.R_reads' HO_3.out).2.1); rintro e w19 ⟨rfl, hb⟩; refine ⟨_, rfl, ?_⟩; replace HO_3 := rb HO_3 hb; replace HB := aM (below_step (bw HB) hb); (try clear hb); (try clear hb2); (try clear hk); (try clear hi)))
       go_ret
       exact ⟨er, (bw HB)⟩
      ·rw [if_neg c17] at H
       exact absurd H (by simp)
     ·rw [if_neg c16] at H
      exact absurd H (by simp)
 ·replace c3 := Bool.eq_false_iff.mpr c3
  subst c3
  have H1 : (some (⟨#[]⟩ : ByteArray)) = some r := by rw [if_neg (show ¬ (false = true) by decide)] at H; exact H
  clear H
  have H := H1
  clear H1
  obtain rfl := Option.some.inj H
  go_enter Try.func62, Try.ntmps62
  go_wp2_with (first | (refine gl_ (some 7) Try.func58 #[.slice A0 l0.length c0] ?_; (with_reducible refine (impl_SetOk.calls k _ _ l0 false _ ?side1 ?side2 A2.out).mono ?_); (case side1 => exact cA HR0.out); (case side2 => exact HC0.out); rintro e w20 ⟨rfl, hb⟩; refine ⟨_, rfl, ?_⟩; replace HB := aM (below_step (bw HB) hb); (try clear hb); (try clear hb2); (try clear hk); (try clear hi)))
  go_ret
  exact ⟨er, (bw HB)⟩

/-! ### impl_Finger: function 39 -/
def impl_Finger.f (k : Nat) (l0 : List (S76)) : Option (Int) := (impl_SetText.f k l0).bind fun t726 => ((impl_Sum.f k t726).bind fun t727 => (some (Int.tmod (Go.bits .xor .i64 t727 (t727 / 65536)) 32)))
theorem impl_Finger.calls (k : Nat) (A0 : Option Addr) (c0 : Nat) (l0 : List (S76)) (r : Int) (w : World) (hr0 : Kd.C k76 w A0 l0.length l0) (hc0 : l0.length ≤ c0) (h : impl_Finger.f k l0 = some r) :
  Calls Try.prog 39 #[.slice A0 l0.length c0] w fun e w' => e = .returned (.int .i64 r) ∧ Below w.heap.size w w' := by
 have HR0 := aM hr0
 have HC0 := aM hc0
 clear hr0 hc0
 have HB := aM (Below.refl w.heap.size w)
 have H : ((impl_SetText.f k l0).bind fun t726 => ((impl_Sum.f k t726).bind fun t727 => (some (Int.tmod (Go.bits .xor .i64 t727 (t727 / 65536)) 32)))) = some r := h
 clear h; replace H := bs_ H; obtain ⟨t726, A20, H⟩ := H; try dsimp only at H
 have A2 := aM A20
 clear A20; replace H := bs_ H; obtain ⟨t727, A30, H⟩ := H; try dsimp only at H
 have A3 := aM A30
 clear A30
 obtain rfl := Option.some.inj H
 go_enter Try.func39, Try.ntmps39
 go_wp2_with (first | (refine gl_ (some 5) Try.func62 #[.slice A0 l0.length c0] ?_; (with_reducible refine (impl_SetText.calls k _ _ l0 t726 _ ?side1 ?side2 A2.out).mono ?_); (case side1 => exact cA HR0.out); (case side2 => exact HC0.out); rintro e w4 ⟨rfl, hb⟩; refine ⟨_, rfl, ?_⟩; replace HB := aM (below_step (bw HB) hb); (try clear hb); (try clear hb2); (try clear hk); (try clear hi)) | (refine gl_ (some 6) Try.func61 #[.string t726] ?_; (with_reducible refine (impl_Sum.calls k t726 t727 _ A3.out).mono ?_); rintro e w' ⟨rfl, ⟨nd, rfl⟩⟩; refine ⟨_, rfl, ?_⟩))
 go_ret
 exact ⟨er, (bw HB)⟩

/-! ### impl_labelsApart: function 40 -/
def impl_labelsApart.l0 : Nat → List (S29) → List (S29) → Int → Int → Option (Bool)
 | 0, _, _, _, _ => none
 | k + 1, x0, x5, x6, x7 => if x7 < x6 then (if 0 ≤ x7 then (if x7 < (x5.length : Int) then (if x7 ≤ (x0.length : Int) then ((impl_labelsAt.f k (x0.take (x7 : Int).toNat) ((rd_T29 x5 x7).f0)).bind fun t734 => (if t734 ≥ 0 then (some false) else (impl_labelsApart.l0 k x0 x5 x6 (wrap64 (x7 + 1))))) else (none)) else (none)) else (none)) else (some true)
def impl_labelsApart.f (k : Nat) (l0 : List (S29)) : Option (Bool) := impl_labelsApart.l0 k l0 l0 (l0.length : Int) 0
theorem impl_labelsApart.calls (k : Nat) (A0 : Option Addr) (c0 : Nat) (l0 : List (S29)) (r : Bool) (w : World) (hr0 : Kd.C k29 w A0 l0.length l0) (hc0 : l0.length ≤ c0) (h : impl_labelsApart.f k l0 = some r) :
  Calls Try.prog 40 #[.slice A0 l0.length c0] w fun e w' => e = .returned (.bool r) ∧ Below w.heap.size w w' := by
 have hu29 := Try.underlying29
 have HR0 := aM hr0
 have HC0 := aM hc0
 clear hr0 hc0
 have HB := aM (Below.refl w.heap.size w)
 have H : (impl_labelsApart.l0 k l0 l0 (l0.length : Int) 0) = some r := h
 clear h
 have H' := aM H
 clear H
 go_enter Try.func40, Try.ntmps40
 go_wp2
 go_loopg [7] k (fun kq v7 w' => ∃ (x7_1 : Int), v7 = .int .i64 x7_1 ∧ Aside0 (impl_labelsApart.l0 kq l0 l0 (l0.length : Int) x7_1 = some r) ∧ Aside0 (kq ≤ k) ∧ Aside0 (Below w.heap.size w w'))
 case atStart => exact ⟨(0), rs_, H', ⟨Nat.le_refl _⟩, ⟨(bw HB)⟩⟩
 case round =>
  clear H'
  obtain ⟨x7_1, rfl, HA, HK1, HB⟩ := hrel
  cases gk with
  | zero => exact absurd HA.out (by simp [impl_labelsApart.l0])
  | succ k1 =>
   have H := HA.out
   clear HA
   simp only [impl_labelsApart.l0] at H
   by_cases c2 : x7_1 < (l0.length : Int)
   ·rw [if_pos c2] at H; have c2b0 : decide (x7_1 < (l0.length : Int)) = true := decide_eq_true c2; clear c2
    by_cases c3 : 0 ≤ x7_1
    ·rw [if_pos c3] at H; have c3b0 : decide (0 ≤ x7_1) = true := decide_eq_true c3; clear c3
     by_cases c4 : x7_1 < (l0.length : Int)
     ·rw [if_pos c4] at H; have c4b0 : decide (x7_1 < (l0.length : Int)) = true := decide_eq_true c4; clear c4
      have c5b0 := eq_true (of_decide_eq_true as_ : 0 ≤ x7_1)
      by_cases c6 : x7_1 ≤ (l0.length : Int)
      ·rw [if_pos c6] at H
       have c6b0 := eq_true c6
       have c6b1 : decide (x7_1 ≤ (l0.length : Int)) = true := decide_eq_true c6; clear c6
       obtain ⟨y730, hy730⟩ : ∃ y_ : List (S29), y_ = (l0.take (x7_1 : Int).toNat) := ⟨_, rfl⟩
       replace H : ((impl_labelsAt.f k1 y730 ((rd_T29 l0 x7_1).f0)).bind fun t734 => (if t734 ≥ 0 then (some false) else (impl_labelsApart.l0 k1 l0 l0 (l0.length : Int) (wrap64 (x7_1 + 1))))) = some r := by first | (rw [hy730]; exact H) | exact H
       have Ny730 := aM hy730
       clear hy730; replace H := bs_ H; obtain ⟨t734, A70, H⟩ := H; try dsimp only at H
       have A7 := aM A70
       clear A70
       by_cases c8 : t734 ≥ 0
       ·rw [if_pos c8] at H; have c8b0 : decide (0 ≤ t734) = true := decide_eq_true c8; clear c8
        obtain rfl := Option.some.inj H
        have p728 : 0 ≤ (x7_1 : Int) := of_decide_eq_true as_
        have q728 : x7_1 < (l0.length : Int) := of_decide_eq_true as_
        obtain ⟨ad728, A728_0, c728_0, e728, hx728_0, hx728_1, hx728_2, hx728_3, hl728_0, hi728_0⟩ := at_T29 HR0.out x7_1 p728 q728
        cases e728
        replace hx728_0 := cb HB hx728_0
        replace hx728_1 := cb HB hx728_1
        replace hx728_2 := cb HB hx728_2
        replace hx728_3 := cb HB hx728_3
        have HR728_0 := aM hi728_0
        have HC728_0 := aM hl728_0
        clear hi728_0 hl728_0
        replace p728 := eq_true p728
        replace q728 := eq_true q728
        try go_wp2_with (first | (refine be_ 4 #[.slice none 0 0, .int .i64 0, .int .i64 0, .string (⟨#[]⟩ : ByteArray)] 29 ?_; intro gb729 hg w9 hbox hb; have BK729 := aM (hbox); have GW729 := gw hg (bw HB); have GE729 := gw hg (bw HB); replace HB := aM (below_step (bw HB) hb); clear hb hbox hg; obtain ⟨hcz10_0, hcz10_1, hcz10_2, hcz10_3⟩ := zc4 BK729; have hfz10_0 := zf BK729))
        have n0_ : Aside0 (((((w9.setCell ⟨gb729, 0, none⟩ (.slice A728_0 ((rd_T29 l0 x7_1).f0).length c728_0)).setCell ⟨gb729, 1, none⟩ (.int .i64 ((rd_T29 l0 x7_1).f1))).setCell ⟨gb729, 2, none⟩ (.int .i64 ((rd_T29 l0 x7_1).f2))).setCell ⟨gb729, 3, none⟩ (.string ((rd_T29 l0 x7_1).f3))).heap[gb729]? = some (.cells #[.slice A728_0 ((rd_T29 l0 x7_1).f0).length c728_0, .int .i64 ((rd_T29 l0 x7_1).f1), .int .i64 ((rd_T29 l0 x7_1).f2), .string ((rd_T29 l0 x7_1).f3)] 29 (0, 0))) := ⟨by refine blk_put (cs := #[.slice A728_0 ((rd_T29 l0 x7_1).f0).length c728_0, .int .i64 ((rd_T29 l0 x7_1).f1), .int .i64 ((rd_T29 l0 x7_1).f2), .string (⟨#[]⟩ : ByteArray)]) ?_ 3 _ rfl; refine blk_put (cs := #[.slice A728_0 ((rd_T29 l0 x7_1).f0).length c728_0, .int .i64 ((rd_T29 l0 x7_1).f1), .int .i64 0, .string (⟨#[]⟩ : ByteArray)]) ?_ 2 _ rfl; refine blk_put (cs := #[.slice A728_0 ((rd_T29 l0 x7_1).f0).length c728_0, .int .i64 0, .int .i64 0, .string (⟨#[]⟩ : ByteArray)]) ?_ 1 _ rfl; refine blk_put (cs := #[.slice none 0 0, .int .i64 0, .int .i64 0, .string (⟨#[]⟩ : ByteArray)]) ?_ 0 _ rfl; exact aB BK729⟩
        have n1_ : Aside0 (Below w.heap.size w ((((w9.setCell ⟨gb729, 0, none⟩ (.slice A728_0 ((rd_T29 l0 x7_1).f0).length c728_0)).setCell ⟨gb729, 1, none⟩ (.int .i64 ((rd_T29 l0 x7_1).f1))).setCell ⟨gb729, 2, none⟩ (.int .i64 ((rd_T29 l0 x7_1).f2))).setCell ⟨gb729, 3, none⟩ (.string ((rd_T29 l0 x7_1).f3)))) := ⟨(bw HB)⟩
        (try clear BK729)
        (try clear HB)
        generalize ((((w9.setCell ⟨gb729, 0, none⟩ (.slice A728_0 ((rd_T29 l0 x7_1).f0).length c728_0)).setCell ⟨gb729, 1, none⟩ (.int .i64 ((rd_T29 l0 x7_1).f1))).setCell ⟨gb729, 2, none⟩ (.int .i64 ((rd_T29 l0 x7_1).f2))).setCell ⟨gb729, 3, none⟩ (.string ((rd_T29 l0 x7_1).f3))) = w11 at n0_ n1_ ⊢
        have BK729 := n0_; have HB := n1_; clear n0_ n1_
        replace BK729 := aM (blk_drew BK729.out)
        replace HB := aM (below_drew1 HB.out)
        have q13 : (x7_1 : Int) ≤ ((l0.length : Int) : Int) := of_decide_eq_true as_
        obtain ⟨i013, hi013, _, hsz13, _⟩ := info_parts info29
        have hroom13 : l0.length ≤ c0 := HC0.out
        have hC13 : Kd.C k29 _ (some ad728) l0.length l0 := HR0.out
        have hcut13 := cut_to (P := Try.prog) 24 29 .i64 Try.underlying24 hi013 (some ad728) l0.length c0 x7_1 (of_decide_eq_true as_) q13 hroom13
        have hr13 := Kd.C_take (m := (x7_1 : Int).toNat) hC13 (by omega)
        have hy13 : y730.length = (x7_1 : Int).toNat := (by rw [Ny730.out, List.length_take]; omega)
        rw [← Ny730.out] at hr13
        rw [← hy13] at hcut13
        have HR733 := aM hr13
        have HC733 := aM (show y730.length ≤ c0 from by omega)
        clear hr13 hC13 hroom13 hi013 hsz13
        have KY13 := aM hy13
        clear hy13
        replace q13 := eq_true q13
        refine start_ (n := 7) (S := fun w' => w'.cell? ⟨gb729, 0, none⟩ = some (.slice A728_0 ((rd_T29 l0 x7_1).f0).length c728_0) ∧ w'.cell? ⟨gb729, 1, none⟩ = some (.int .i64 ((rd_T29 l0 x7_1).f1)) ∧ w'.cell? ⟨gb729, 2, none⟩ = some (.int .i64 ((rd_T29 l0 x7_1).f2)) ∧ w'.cell? ⟨gb729, 3, none⟩ = some (.string ((rd_T29 l0 x7_1).f3))) (ds := []) (bz 7 0) (by kernel_rfl) rfl (by kernel_rfl) ⟨(blk_cell BK729.out 0).trans rfl, (blk_cell BK729.out 1).trans rfl, (blk_cell BK729.out 2).trans rfl, (blk_cell BK729.out 3).trans rfl⟩ (fun hHeld => ?_)
        generalize w11.drew = w12 at BK729 HB HR733 hHeld ⊢
        refine pA_ 0 (some 12) (bz 7 1) ?_ ?_ ?_ ?_ ?_
        rotate_left
        ·intro w'
         go_simp
         with_reducible rfl
        rotate_left
        ·simp only [u6_]
         rfl
        refine pA_ 1 (some 13) (bz 7 3) ?_ ?_ ?_ ?_ ?_
        rotate_left
        ·intro w'
         go_simp
         with_reducible rfl
        rotate_left
        ·simp only [u6_]
         rfl
        refine pA_ 2 (some 14) (bz 7 7) ?_ ?_ ?_ ?_ ?_
        rotate_left
        ·intro w'
         go_simp
         with_reducible rfl
        rotate_left
        ·simp only [u6_]
         rfl
        refine pA_ 3 (some 15) (bz 7 15) ?_ ?_ ?_ ?_ ?_
        rotate_left
        ·intro w'
         go_simp
         with_reducible rfl
        rotate_left
        ·simp only [u6_]
         rfl
        refine tA_ 4 (some 16) (bz 7 31) ?_ ?_ hHeld ?_ ?_ ?_
        rotate_left
        ·rintro w' ⟨s0, s1, s2, s3⟩
         go_simp
         with_reducible rfl
        rotate_left
        ·simp only [u6_]
         rfl
        refine one_ (i := 5) (N := some 17) (bz 7 63) rfl rfl (by kernel_rfl) (by decide) (fun K hK => ?_)
        refine goes_ Try.func45 (by kernel_rfl) rfl #[.slice (some ad728) y730.length c0, .slice A728_0 ((rd_T29 l0 x7_1).f0).length c728_0] (by rfl) rfl rfl mp ?_
        with_reducible refine (impl_labelsAt.calls k1 _ _ y730 _ _ ((rd_T29 l0 x7_1).f0) t734 _ ?side1 ?side2 ?side3 ?side4 A7.out).mono ?_
        (case side1 => exact cA (Kd.C_below HR733.out HB.out))
        (case side2 => exact HC733.out)
        (case side3 => exact cA (Kd.C_below HR728_0.out HB.out))
        (case side4 => exact HC728_0.out)
        rintro e w14 ⟨rfl, hb⟩
        refine ⟨_, rfl, ?_⟩
        replace BK729 := bb BK729 hb
        replace HB := aM (below_step (bw HB) hb)
        (try clear hb)
        (try clear hb2)
        (try clear hk)
        (try clear hi)
        refine hK.out _ _ ⟨(blk_cell BK729.out 0).trans rfl, (blk_cell BK729.out 1).trans rfl, (blk_cell BK729.out 2).trans rfl, (blk_cell BK729.out 3).trans rfl⟩ (fun hHeld => ?_)
        clear hK K
        refine norm_ (a' := ?_) ?_ ?_
        rotate_left
        ·show Act.put _ (some 17) _ = _
         simp only [u6_]
         rfl
        refine pA_ 6 (some 18) (bz 7 127) ?_ ?_ ?_ ?_ ?_
        rotate_left
        ·intro w'
         go_simp
         with_reducible rfl
        rotate_left
        ·simp only [u6_]
         rfl
        refine done_ (by kernel_rfl) ?_
        try go_wp2
        go_ret
        exact ⟨er, (bw HB)⟩
       ·rw [if_neg c8] at H; have c8b0 : decide (0 ≤ t734) = false := decide_eq_false c8; clear c8
        have H' := aM H
        clear H
        have p728 : 0 ≤ (x7_1 : Int) := of_decide_eq_true as_
        have q728 : x7_1 < (l0.length : Int) := of_decide_eq_true as_
        obtain ⟨ad728, A728_0, c728_0, e728, hx728_0, hx728_1, hx728_2, hx728_3, hl728_0, hi728_0⟩ := at_T29 HR0.out x7_1 p728 q728
        cases e728
        replace hx728_0 := cb HB hx728_0
        replace hx728_1 := cb HB hx728_1
        replace hx728_2 := cb HB hx728_2
        replace hx728_3 := cb HB hx728_3
        have HR728_0 := aM hi728_0
        have HC728_0 := aM hl728_0
        clear hi728_0 hl728_0
        replace p728 := eq_true p728
        replace q728 := eq_true q728
        try go_wp2_with (first | (refine be_ 4 #[.slice none 0 0, .int .i64 0, .int .i64 0, .string (⟨#[]⟩ : ByteArray)] 29 ?_; intro gb729 hg w15 hbox hb; have BK729 := aM (hbox); have GW729 := gw hg (bw HB); have GE729 := gw hg (bw HB); replace HB := aM (below_step (bw HB) hb); clear hb hbox hg; obtain ⟨hcz16_0, hcz16_1, hcz16_2, hcz16_3⟩ := zc4 BK729; have hfz16_0 := zf BK729))
        have n0_ : Aside0 (((((w15.setCell ⟨gb729, 0, none⟩ (.slice A728_0 ((rd_T29 l0 x7_1).f0).length c728_0)).setCell ⟨gb729, 1, none⟩ (.int .i64 ((rd_T29 l0 x7_1).f1))).setCell ⟨gb729, 2, none⟩ (.int .i64 ((rd_T29 l0 x7_1).f2))).setCell ⟨gb729, 3, none⟩ (.string ((rd_T29 l0 x7_1).f3))).heap[gb729]? = some (.cells #[.slice A728_0 ((rd_T29 l0 x7_1).f0).length c728_0, .int .i64 ((rd_T29 l0 x7_1).f1), .int .i64 ((rd_T29 l0 x7_1).f2), .string ((rd_T29 l0 x7_1).f3)] 29 (0, 0))) := ⟨by refine blk_put (cs := #[.slice A728_0 ((rd_T29 l0 x7_1).f0).length c728_0, .int .i64 ((rd_T29 l0 x7_1).f1), .int .i64 ((rd_T29 l0 x7_1).f2), .string (⟨#[]⟩ : ByteArray)]) ?_ 3 _ rfl; refine blk_put (cs := #[.slice A728_0 ((rd_T29 l0 x7_1).f0).length c728_0, .int .i64 ((rd_T29 l0 x7_1).f1), .int .i64 0, .string (⟨#[]⟩ : ByteArray)]) ?_ 2 _ rfl; refine blk_put (cs := #[.slice A728_0 ((rd_T29 l0 x7_1).f0).length c728_0, .int .i64 0, .int .i64 0, .string (⟨#[]⟩ : ByteArray)]) ?_ 1 _ rfl; refine blk_put (cs := #[.slice none 0 0, .int .i64 0, .int .i64 0, .string (⟨#[]⟩ : ByteArray)]) ?_ 0 _ rfl; exact aB BK729⟩
        have n1_ : Aside0 (Below w.heap.size w ((((w15.setCell ⟨gb729, 0, none⟩ (.slice A728_0 ((rd_T29 l0 x7_1).f0).length c728_0)).setCell ⟨gb729, 1, none⟩ (.int .i64 ((rd_T29 l0 x7_1).f1))).setCell ⟨gb729, 2, none⟩ (.int .i64 ((rd_T29 l0 x7_1).f2))).setCell ⟨gb729, 3, none⟩ (.string ((rd_T29 l0 x7_1).f3)))) := ⟨(bw HB)⟩
        (try clear BK729)
        (try clear HB)
        generalize ((((w15.setCell ⟨gb729, 0, none⟩ (.slice A728_0 ((rd_T29 l0 x7_1).f0).length c728_0)).setCell ⟨gb729, 1, none⟩ (.int .i64 ((rd_T29 l0 x7_1).f1))).setCell ⟨gb729, 2, none⟩ (.int .i64 ((rd_T29 l0 x7_1).f2))).setCell ⟨gb729, 3, none⟩ (.string ((rd_T29 l0 x7_1).f3))) = w17 at n0_ n1_ ⊢
        have BK729 := n0_; have HB := n1_; clear n0_ n1_
        replace BK729 := aM (blk_drew BK729.out)
        replace HB := aM (below_drew1 HB.out)
        have q19 : (x7_1 : Int) ≤ ((l0.length : Int) : Int) := of_decide_eq_true as_
        obtain ⟨i019, hi019, _, hsz19, _⟩ := info_parts info29
        have hroom19 : l0.length ≤ c0 := HC0.out
        have hC19 : Kd.C k29 _ (some ad728) l0.length l0 := HR0.out
        have hcut19 := cut_to (P := Try.prog) 24 29 .i64 Try.underlying24 hi019 (some ad728) l0.length c0 x7_1 (of_decide_eq_true as_) q19 hroom19
        have hr19 := Kd.C_take (m := (x7_1 : Int).toNat) hC19 (by omega)
        have hy19 : y730.length = (x7_1 : Int).toNat := (by rw [Ny730.out, List.length_take]; omega)
        rw [← Ny730.out] at hr19
        rw [← hy19] at hcut19
        have HR733 := aM hr19
        have HC733 := aM (show y730.length ≤ c0 from by omega)
        clear hr19 hC19 hroom19 hi019 hsz19
        have KY19 := aM hy19
        clear hy19
        replace q19 := eq_true q19
        refine start_ (n := 7) (S := fun w' => w'.cell? ⟨gb729, 0, none⟩ = some (.slice A728_0 ((rd_T29 l0 x7_1).f0).length c728_0) ∧ w'.cell? ⟨gb729, 1, none⟩ = some (.int .i64 ((rd_T29 l0 x7_1).f1)) ∧ w'.cell? ⟨gb729, 2, none⟩ = some (.int .i64 ((rd_T29 l0 x7_1).f2)) ∧ w'.cell? ⟨gb729, 3, none⟩ = some (.string ((rd_T29 l0 x7_1).f3))) (ds := []) (bz 7 0) (by kernel_rfl) rfl (by kernel_rfl) ⟨(blk_cell BK729.out 0).trans rfl, (blk_cell BK729.out 1).trans rfl, (blk_cell BK729.out 2).trans rfl, (blk_cell BK729.out 3).trans rfl⟩ (fun hHeld => ?_)
        generalize w17.drew = w18 at BK729 HB HR733 hHeld ⊢
        refine pA_ 0 (some 12) (bz 7 1) ?_ ?_ ?_ ?_ ?_
        rotate_left
        ·intro w'
         go_simp
         with_reducible rfl
        rotate_left
        ·simp only [u6_]
         rfl
        refine pA_ 1 (some 13) (bz 7 3) ?_ ?_ ?_ ?_ ?_
        rotate_left
        ·intro w'
         go_simp
         with_reducible rfl
        rotate_left
        ·simp only [u6_]
         rfl
        refine pA_ 2 (some 14) (bz 7 7) ?_ ?_ ?_ ?_ ?_
        rotate_left
        ·intro w'
         go_simp
         with_reducible rfl
        rotate_left
        ·simp only [u6_]
         rfl
        refine pA_ 3 (some 15) (bz 7 15) ?_ ?_ ?_ ?_ ?_
        rotate_left
        ·intro w'
         go_simp
         with_reducible rfl
        rotate_left
        ·simp only [u6_]
         rfl
        refine tA_ 4 (some 16) (bz 7 31) ?_ ?_ hHeld ?_ ?_ ?_
        rotate_left
        ·rintro w' ⟨s0, s1, s2, s3⟩
         go_simp
         with_reducible rfl
        rotate_left
        ·simp only [u6_]
         rfl
        refine one_ (i := 5) (N := some 17) (bz 7 63) rfl rfl (by kernel_rfl) (by decide) (fun K hK => ?_)
        refine goes_ Try.func45 (by kernel_rfl) rfl #[.slice (some ad728) y730.length c0, .slice A728_0 ((rd_T29 l0 x7_1).f0).length c728_0] (by rfl) rfl rfl mp ?_
        with_reducible refine (impl_labelsAt.calls k1 _ _ y730 _ _ ((rd_T29 l0 x7_1).f0) t734 _ ?side1 ?side2 ?side3 ?side4 A7.out).mono ?_
        (case side1 => exact cA (Kd.C_below HR733.out HB.out))
        (case side2 => exact HC733.out)
        (case side3 => exact cA (Kd.C_below HR728_0.out HB.out))
        (case side4 => exact HC728_0.out)
        rintro e w20 ⟨rfl, hb⟩
        refine ⟨_, rfl, ?_⟩
        replace BK729 := bb BK729 hb
        replace HB := aM (below_step (bw HB) hb)
        (try clear hb)
        (try clear hb2)
        (try clear hk)
        (try clear hi)
        refine hK.out _ _ ⟨(blk_cell BK729.out 0).trans rfl, (blk_cell BK729.out 1).trans rfl, (blk_cell BK729.out 2).trans rfl, (blk_cell BK729.out 3).trans rfl⟩ (fun hHeld => ?_)
        clear hK K
        refine norm_ (a' := ?_) ?_ ?_
        rotate_left
        ·show Act.put _ (some 17) _ = _
         simp only [u6_]
         rfl
        refine pA_ 6 (some 18) (bz 7 127) ?_ ?_ ?_ ?_ ?_
        rotate_left
        ·intro w'
         go_simp
         with_reducible rfl
        rotate_left
        ·simp only [u6_]
         rfl
        refine done_ (by kernel_rfl) ?_
        try go_wp2
        go_roundg k1
        case measure => have := HK1.out; omega
        case rel => exact ⟨(wrap64 (x7_1 + 1)), rs_, H', ⟨by have := HK1.out; omega⟩, ⟨(bw HB)⟩⟩
      ·rw [if_neg c6] at H
       exact absurd H (by simp)
     ·rw [if_neg c4] at H
      exact absurd H (by simp)
    ·rw [if_neg c3] at H
     exact absurd H (by simp)
   ·rw [if_neg c2] at H; have c2b0 : decide (x7_1 < (l0.length : Int)) = false := decide_eq_false c2; clear c2
    obtain rfl := Option.some.inj H
    go_wp2
    go_ret
    exact ⟨er, (bw HB)⟩

end Go.Proofs.Ytdhignbneeapiaa.PFnChains
