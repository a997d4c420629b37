/- What the Go functions that FnExactDropOver reaches compute, as Lean functions, and that the machine's calls do so; no conditions. -/
import Derived.Test.YtgindocfjoalhaaPFnExactDropOverx0
import Derived.Test.YtgindocfjoalhaaPFnExactDropOverx1
namespace Go.Proofs.Ytgindocfjoalhaa.PFnExactDropOver
open Go.RowKit Go.Proofs.YtgindocfjoalhaaW.PrintWords Go.Proofs.YtgindocfjoalhaaW.PrintLast Go.Proofs.YtgindocfjoalhaaW.PrintMore
attribute [local go_sem] max2_int min2_int max_two min_two max_three min_three max_four min_four   -- for this text's walks alone
set_option linter.unusedVariables false
set_option linter.unusedSimpArgs false

/-! ### laws_toAlarmS: function 47 -/
def laws_toAlarmS.l0 : Nat → List (S62) → List (S26) → Int → Option ((List (S26)))
 | 0, _, _, _ => none
 | k + 1, x0, x3, x4 => if x4 < (x0.length : Int) then (if 0 ≤ x4 then ((laws_toAlarm.f k ((rd_T62 x0 x4).f0) ((rd_T62 x0 x4).f1) ((rd_T62 x0 x4).f2) ((rd_T62 x0 x4).f3)).bind fun bt163 => (if x4 < (x3.length : Int) then (laws_toAlarmS.l0 k x0 (x3.set (x4 : Int).toNat (⟨bt163.1, bt163.2.1, bt163.2.2.1, bt163.2.2.2⟩ : S26)) (wrap64 (x4 + 1))) else (none))) else (none)) else (some x3)
def laws_toAlarmS.f (k : Nat) (l0 : List (S62)) : Option ((List (S26))) := if 0 ≤ (l0.length : Int) then (if ((l0.length : Int) : Int).toNat ≤ 5026338869833 then (laws_toAlarmS.l0 k l0 (List.replicate ((l0.length : Int) : Int).toNat z26) 0) else (none)) else (none)
theorem laws_toAlarmS.mono_l : ∀ k, (∀ y0 y1 y2, LeO (laws_toAlarmS.l0 k y0 y1 y2) (laws_toAlarmS.l0 (k + 1) y0 y1 y2))
 | 0 => fun _ _ _ r h => by simp [laws_toAlarmS.l0] at h
 | k + 1 => by
  have ih0 := laws_toAlarmS.mono_l k
  ·intro y0 y1 y2
   unfold laws_toAlarmS.l0
   repeat' first
   | (with_reducible exact ih0 _ _ _)
   | (with_reducible exact laws_toAlarm.mono _ _ _ _ _)
   | (with_reducible exact LeO.refl _)
   | (with_reducible exact LeO.none _)
   | (with_reducible refine LeO.ite ?_ ?_)
   | (with_reducible refine LeO.bind ?_ (fun _ => ?_))
   | exact ih0 _ _ _
   | exact laws_toAlarm.mono _ _ _ _ _
   | exact LeO.none _
   | refine LeO.ite ?_ ?_
   | refine LeO.bind ?_ (fun _ => ?_)
theorem laws_toAlarmS.mono : ∀ a0 k, LeO (laws_toAlarmS.f k a0) (laws_toAlarmS.f (k + 1) a0) := by
 intro a0 k
 have ih0 := laws_toAlarmS.mono_l k
 unfold laws_toAlarmS.f
 repeat' first
   | (with_reducible exact ih0 _ _ _)
   | (with_reducible exact laws_toAlarm.mono _ _ _ _ _)
   | (with_reducible exact LeO.refl _)
   | (with_reducible exact LeO.none _)
   | (with_reducible refine LeO.ite ?_ ?_)
   | (with_reducible refine LeO.bind ?_ (fun _ => ?_))
   | exact ih0 _ _ _
   | exact laws_toAlarm.mono _ _ _ _ _
   | exact LeO.none _
   | refine LeO.ite ?_ ?_
   | refine LeO.bind ?_ (fun _ => ?_)
set_option maxHeartbeats 8000000 in
set_option maxRecDepth 100000 in
theorem laws_toAlarmS.calls (k : Nat) (A0 : Option Addr) (c0 : Nat) (l0 : List (S62)) (r : List (S26)) (w : World) (hr0 : Kd.C k62 w A0 l0.length l0) (hc0 : l0.length ≤ c0) (h : laws_toAlarmS.f k l0 = some r) :
  Calls Try.prog 47 #[.slice A0 l0.length c0] w fun e w' => ∃ v0_ : Value, e = .returned (v0_) ∧ Kd.S k26 26 w' w.heap.size (fun _ => True) v0_ r ∧ Below w.heap.size w w' := by
 have hu62 := Try.underlying62
 have hu26 := Try.underlying26
 have HR0 := aM hr0
 have HC0 := aM hc0
 clear hr0 hc0
 have HB := aM (Below.refl w.heap.size w)
 have H : (if 0 ≤ (l0.length : Int) then (if ((l0.length : Int) : Int).toNat ≤ 5026338869833 then (laws_toAlarmS.l0 k l0 (List.replicate ((l0.length : Int) : Int).toNat z26) 0) else (none)) else (none)) = some r := h
 clear h
 by_cases c2 : 0 ≤ (l0.length : Int)
 ·rw [if_pos c2] at H
  have c2b0 := eq_true c2
  have c2b1 : decide (0 ≤ (l0.length : Int)) = true := decide_eq_true c2; clear c2
  by_cases c3 : ((l0.length : Int) : Int).toNat ≤ 5026338869833
  ·rw [if_pos c3] at H
   have c3b0 := eq_true c3
   have c3b1 : decide (((l0.length : Int) : Int).toNat ≤ 5026338869833) = true := decide_eq_true c3; clear c3
   obtain ⟨y159, hy159⟩ : ∃ y_ : List (S26), y_ = (List.replicate ((l0.length : Int) : Int).toNat z26) := ⟨_, rfl⟩
   replace H : (laws_toAlarmS.l0 k l0 y159 0) = some r := by first | (rw [hy159]; with_reducible exact H) | (have H2_ := (Option.bind_some _ _).symm.trans H; rw [hy159]; with_reducible exact H2_) | (have H2_ := (Option.bind_some _ _).symm.trans H; with_reducible exact H2_) | with_reducible exact H | (rw [hy159]; exact H) | exact H
   have Ny159 := aM hy159
   clear hy159
   have H' := aM H
   clear H
   go_enter Try.func47, Try.ntmps47
   go_wp2_with (first | ((with_reducible refine gate_dst (N := 7) rfl ?_); refine Kd.S_make k26 _ 26 rfl (N := 7) rfl 37 _ _ rfl (l0.length : Int) rfl rfl Try.underlying37 (.agg #[(.slice none 0 0), (.int .i64 0), (.int .i64 0), (.string ⟨#[]⟩)]) 56 info26 rfl (by decide) (by omega) z26 (ok := fun _ => True) (okp := fun _ => True) (k26_mkM _ _ _ z26 (Kd.R_nil _ _ _ _ _)) (fun _ hk => hk) trivial (of_decide_eq_true (by first | (with_reducible assumption) | assumption)) (Nat.le_trans (Nat.mul_le_mul_right _ (of_decide_eq_true (by first | (with_reducible assumption) | assumption) : (l0.length : Int).toNat ≤ 5026338869833)) (by omega)) (Below.refl _ _) (Nat.le_refl _) ?_; intro v160 w4 ho5 hb hg_ hnew_; clear hg_ hnew_; (first | rw [← Ny159.out] at ho5 | (simp only [Int.reduceToNat] at ho5; rw [← Ny159.out] at ho5)); have n0_ := aM (Kd.S_lower ho5 (below_size (by repeat (first | (with_reducible first | exact HB.out | apply aW1 | apply aW2 | apply aW3) | exact HB.out)))); have n1_ := aM (below_step (by repeat (first | (with_reducible first | exact HB.out | apply aW1 | apply aW2 | apply aW3) | exact HB.out)) hb); clear HB; have HO161 := n0_; have HB := n1_; clear n0_ n1_ hb ho5))
   go_loopg [4] k (fun kq v4 w' => ∃ (x3_1 : List (S26)) (x4_1 : Int), v4 = .int .i64 x4_1 ∧ Aside0 (laws_toAlarmS.l0 kq l0 x3_1 x4_1 = some r) ∧ Aside0 (kq ≤ k) ∧ Aside0 (Kd.S k26 26 w' w.heap.size (fun _ => True) v160 x3_1) ∧ Aside0 (Below w.heap.size w w'))
   case atStart => exact ⟨(y159), (0), (by first | rfl | (simp; done) | (simp [*]; done)), H', ⟨Nat.le_refl _⟩, ⟨by (with_reducible repeat (first | apply Kd.S_alloc | apply Kd.S_drewN | apply Kd.S_drew)); exact HO161.out⟩, ⟨by repeat (first | (with_reducible first | exact HB.out | apply aW1 | apply aW2 | apply aW3) | exact HB.out)⟩⟩
   case round =>
    clear H'
    try clear c2
    try clear c2b0
    try clear c2b1
    try clear p2
    try clear c3
    try clear c3b0
    try clear c3b1
    try clear c4
    obtain ⟨x3_1, x4_1, rfl, HA, HK1, HO_3, HB⟩ := hrel
    cases gk with
    | zero => exact absurd HA.out (by simp [laws_toAlarmS.l0])
    | succ k1 =>
     have H := HA.out
     clear HA
     simp only [laws_toAlarmS.l0] at H
     by_cases c6 : x4_1 < (l0.length : Int)
     ·rw [if_pos c6] at H; have c6b0 : decide (x4_1 < (l0.length : Int)) = true := decide_eq_true c6; clear c6
      by_cases c7 : 0 ≤ x4_1
      ·rw [if_pos c7] at H; have c7b0 : decide (0 ≤ x4_1) = true := decide_eq_true c7; clear c7; replace H := Option.bind_eq_some_iff.mp H
       obtain ⟨⟨t163, t166, t167, t168⟩, A80, H⟩ := H
       try dsimp only at H
       have A8 := aM A80
       clear A80
       by_cases c9 : x4_1 < (x3_1.length : Int)
       ·rw [if_pos c9] at H; have c9b0 : decide (x4_1 < (x3_1.length : Int)) = true := decide_eq_true c9; clear c9
        obtain ⟨y169, hy169⟩ : ∃ y_ : List (S26), y_ = (x3_1.set (x4_1 : Int).toNat (⟨t163, t166, t167, t168⟩ : S26)) := ⟨_, rfl⟩
        replace H : (laws_toAlarmS.l0 k1 l0 y169 (wrap64 (x4_1 + 1))) = some r := by first | (rw [hy169]; with_reducible exact H) | (have H2_ := (Option.bind_some _ _).symm.trans H; rw [hy169]; with_reducible exact H2_) | (have H2_ := (Option.bind_some _ _).symm.trans H; with_reducible exact H2_) | with_reducible exact H | (rw [hy169]; exact H) | exact H
        have Ny169 := aM hy169
        clear hy169
        have H' := aM H
        clear H
        have p162 : 0 ≤ (x4_1 : Int) := of_decide_eq_true (by first | (with_reducible assumption) | assumption)
        have q162 : x4_1 < (l0.length : Int) := of_decide_eq_true (by first | (with_reducible assumption) | assumption)
        obtain ⟨ad162, A162_0, c162_0, e162, hx162_0, hx162_1, hx162_2, hx162_3, hl162_0, hi162_0⟩ := at_T62 HR0.out x4_1 p162 q162
        cases e162
        replace hx162_0 := (HB.out.cell (World.block_lt_of_cell? w _ hx162_0)).trans hx162_0
        replace hx162_1 := (HB.out.cell (World.block_lt_of_cell? w _ hx162_1)).trans hx162_1
        replace hx162_2 := (HB.out.cell (World.block_lt_of_cell? w _ hx162_2)).trans hx162_2
        replace hx162_3 := (HB.out.cell (World.block_lt_of_cell? w _ hx162_3)).trans hx162_3
        have HR162_0 := aM hi162_0
        have HC162_0 := aM hl162_0
        clear hi162_0 hl162_0
        replace p162 := eq_true p162
        replace q162 := eq_true q162
        go_wp2_with (first | ((with_reducible refine gate_callee (f := 37) rfl ?_); refine goesL_ (some 20) rfl rfl Try.func37 (by kernel_rfl) rfl #[.agg #[.slice A162_0 ((rd_T62 l0 x4_1).f0).length c162_0, .int .i64 ((rd_T62 l0 x4_1).f1), .int .i64 ((rd_T62 l0 x4_1).f2), .string ((rd_T62 l0 x4_1).f3)]] rfl (by (try simp only [List.map_toArray, List.map_cons, List.map_nil]); first | done | rfl | (simp only [List.length_drop, List.length_take]; rfl)) ?_; (with_reducible refine (laws_toAlarm.calls k1 _ _ ((rd_T62 l0 x4_1).f0) ((rd_T62 l0 x4_1).f1) ((rd_T62 l0 x4_1).f2) ((rd_T62 l0 x4_1).f3) t163 t166 t167 t168 _ ?side1 ?side2 A8.out).mono ?_); (case side1 => repeat (first | exact (Kd.C_below HR162_0.out HB.out) | (with_reducible refine Kd.C_alloc ?_ _) | (with_reducible refine Kd.C_drewN ?_ _) | (with_reducible refine Kd.C_drew ?_))); (case side2 => exact HC162_0.out); rintro e w11 ⟨v164, rfl, ho0, hb⟩; refine ⟨_, rfl, ?_⟩; have n0_ := aM (Kd.S_elder' (by (with_reducible repeat (first | apply Kd.S_alloc | apply Kd.S_drewN | apply Kd.S_drew)); exact HO_3.out) (Kd.R_base ho0) hb); have n1_ := aM (Kd.R_lower ho0 (below_size (by repeat (first | (with_reducible first | exact HB.out | apply aW1 | apply aW2 | apply aW3) | exact HB.out)))); have n2_ := aM (below_step (by repeat (first | (with_reducible first | exact HB.out | apply aW1 | apply aW2 | apply aW3) | exact HB.out)) hb); clear HO_3 HB; have HO_3 := n0_; have HO165 := n1_; have HB := n2_; clear n0_ n1_ n2_; (try clear hb); (try clear hb2); (try clear hk); (try clear hi); (try clear ho0); have p10 : 0 ≤ (x4_1 : Int) := of_decide_eq_true (by first | (with_reducible assumption) | assumption); have q10 : (x4_1 : Int) < ((x3_1.length : Int) : Int) := of_decide_eq_true (by first | (with_reducible assumption) | assumption); obtain ⟨go10, co10, eo10, gb10, gl10, cl10, HG10⟩ := Kd.S_form HO_3.out (by omega); (first | cases eo10 | (injection eo10 with ea_ en_ ec_; (first | subst ea_ | (injection ea_ with ea_; subst ea_)); subst ec_; clear en_)); have GB10 := aM gb10; have GG10 := aM HG10; clear gb10 gl10 HG10; obtain ⟨_, ce10, hcl10, hM10, hcc10, hfr10, _, _⟩ := Kd.S_elem HO_3.out z26 (x4_1 : Int) p10 q10; obtain ⟨ve10_0, rfl, ge10_0⟩ := k26_openM hM10; have hx10_0 : w11.cell? ⟨go10, (x4_1 : Int).toNat * 4, none⟩ = some (ve10_0) := hcc10 0 _ rfl; have hx10_1 : w11.cell? ⟨go10, (x4_1 : Int).toNat * 4 + 1, none⟩ = some (.int .i64 ((rd_T26 x3_1 x4_1).f1)) := hcc10 1 _ rfl; have hx10_2 : w11.cell? ⟨go10, (x4_1 : Int).toNat * 4 + 2, none⟩ = some (.int .i64 ((rd_T26 x3_1 x4_1).f2)) := hcc10 2 _ rfl; have hx10_3 : w11.cell? ⟨go10, (x4_1 : Int).toNat * 4 + 3, none⟩ = some (.string ((rd_T26 x3_1 x4_1).f3)) := hcc10 3 _ rfl; have hf10_0 : w11.frozen? ⟨go10, (x4_1 : Int).toNat * 4, none⟩ = false := hfr10 0; have hf10_1 : w11.frozen? ⟨go10, (x4_1 : Int).toNat * 4 + 1, none⟩ = false := hfr10 1; have hf10_2 : w11.frozen? ⟨go10, (x4_1 : Int).toNat * 4 + 2, none⟩ = false := hfr10 2; have hf10_3 : w11.frozen? ⟨go10, (x4_1 : Int).toNat * 4 + 3, none⟩ = false := hfr10 3; clear hcl10 hcc10 hfr10 hM10; replace p10 := eq_true p10; replace q10 := eq_true q10; have n_ := aM (Kd.S_mono (ok' := (fun k_ => some k_ ≠ (v164 : Value).ownBlock)) HO_3.out (fun k_ hk => hk.2)); clear HO_3; have HO_3 := n_; clear n_; have HX12 := aM (show Kd.S k26 26 w11 w.heap.size (fun k_ => ((fun _ => True)) k_ ∧ ¬ ((fun k_ => some k_ = (v164 : Value).ownBlock)) k_) (.slice (some ⟨go10, 0, none⟩) x3_1.length co10) x3_1 from (by (with_reducible repeat (first | apply Kd.S_alloc | apply Kd.S_drewN | apply Kd.S_drew)); exact Kd.S_mono HO_3.out (fun k_ hk => ⟨trivial, fun e_ => hk e_⟩))); obtain ⟨oki12, ce12, hcl12, hM12, hcc12, hfr12, hoki12, hH12⟩ := Kd.S_elem HX12.out z26 (x4_1 : Int) (of_decide_eq_true (by first | (with_reducible assumption) | assumption)) (by have h_ : (x4_1 : Int) < ((x3_1.length : Int) : Int) := of_decide_eq_true (by first | (with_reducible assumption) | assumption); first | exact h_ | (have e_ := (Kd.S_reads' HO_3.out).1; omega) | simpa using h_); obtain ⟨ve12_0, rfl, ge12_0⟩ := k26_openM hM12; have HP12 := Kd.S_seg hH12 (of_decide_eq_true (by first | (with_reducible assumption) | assumption)) (by have h_ : (x4_1 : Int) < ((x3_1.length : Int) : Int) := of_decide_eq_true (by first | (with_reducible assumption) | assumption); first | exact h_ | (have e_ := (Kd.S_reads' HO_3.out).1; omega) | simpa using h_) (seg := [v164, .int .i64 t166, .int .i64 t167, .string t168]) (j := 0) (show 4 ≤ 4 from by decide) (x' := (⟨t163, t166, t167, t168⟩ : S26)) (k26_mkM _ _ _ (⟨t163, t166, t167, t168⟩ : S26) (Kd.R_mono (Kd.R_tight rfl (Kd.R_mono (ok' := fun k_ => ((fun _ => True)) k_ ∧ k_ ≠ go10) (Kd.R_apart' (HO165.out) (Kd.S_typed HO_3.out) (by decide)) (fun k_ hk => ⟨trivial, fun e_ => (hk.2) (by rw [e_]; rfl)⟩))) (fun _ h_ => Or.inr (h_)))) (fun _ hk => hk) (fun k_ hk_ => ((Kd.R_mono (ok' := fun k_ => ((fun _ => True)) k_ ∧ k_ ≠ go10) (Kd.R_apart' (HO165.out) (Kd.S_typed HO_3.out) (by decide)) (fun k_ hk => ⟨trivial, fun e_ => (hk.2) (by rw [e_]; rfl)⟩))).1 k_ hk_.symm); have hx12_0 := hcc12 0 _ rfl; (try simp only [show (k26).sz = 4 from rfl, Nat.mul_one, Nat.add_zero] at hx12_0); have hf12_0 := hfr12 0; (try simp only [show (k26).sz = 4 from rfl, Nat.mul_one, Nat.add_zero] at hf12_0); have hx12_1 := hcc12 1 _ rfl; (try simp only [show (k26).sz = 4 from rfl, Nat.mul_one, Nat.add_zero] at hx12_1); have hf12_1 := hfr12 1; (try simp only [show (k26).sz = 4 from rfl, Nat.mul_one, Nat.add_zero] at hf12_1); have hx12_2 := hcc12 2 _ rfl; (try simp only [show (k26).sz = 4 from rfl, Nat.mul_one, Nat.add_zero] at hx12_2); have hf12_2 := hfr12 2; (try simp only [show (k26).sz = 4 from rfl, Nat.mul_one, Nat.add_zero] at hf12_2); have hx12_3 := hcc12 3 _ rfl; (try simp only [show (k26).sz = 4 from rfl, Nat.mul_one, Nat.add_zero] at hx12_3); have hf12_3 := hfr12 3; (try simp only [show (k26).sz = 4 from rfl, Nat.mul_one, Nat.add_zero] at hf12_3); clear hcl12 hcc12 hfr12 hM12 hoki12 hH12) | ((with_reducible refine gate_store (t := 26) (p := 21) rfl ?_); refine store_event (t := 26) (p := 21) (v := ?vo_w13) (w1 := ((((w11.setCell ⟨go10, (x4_1 : Int).toNat * 4, none⟩ (v164)).setCell ⟨go10, (x4_1 : Int).toNat * 4 + 1, none⟩ (.int .i64 t166)).setCell ⟨go10, (x4_1 : Int).toNat * 4 + 2, none⟩ (.int .i64 t167)).setCell ⟨go10, (x4_1 : Int).toNat * 4 + 3, none⟩ (.string t168))) ?hg ?ho ?hn ?hr ?_; (case ho => rfl); (case hg => rfl); (case hn => rfl); (case hr => first | (go_simp; done) | (go_simp; rfl) | (obtain ⟨_, _, rfl⟩ := Kd.R_slice HO165.out; go_simp; done) | (obtain ⟨_, _, rfl⟩ := Kd.R_slice HO165.out; go_simp; rfl)); intro w13 hw; have hg : w11.grownBy w13 (some go10) := (by rw [hw]; exact HP12.2); have hp_ : Kd.S k26 26 w13 w.heap.size (fun _ => True) (.slice (some ⟨go10, 0, none⟩) x3_1.length co10) y169 := (by rw [hw, Ny169.out]; exact HP12.1); clear HP12; have n0_ := aM (hp_); have n1_ := aM ((by rw [hw]; exact below_set (below_set (below_set (below_set (HB.out) GB10.out) GB10.out) GB10.out) GB10.out : Below w.heap.size w w13)); clear HO_3 HB HO165; have HO_3 := n0_; have HB := n1_; clear n0_ n1_ hg hw hp_))
        go_roundg k1
        case measure => have := HK1.out; omega
        case rel => exact ⟨(y169), (wrap64 (x4_1 + 1)), (by first | rfl | (simp; done) | (simp [*]; done)), H', ⟨by have := HK1.out; omega⟩, ⟨by (with_reducible repeat (first | apply Kd.S_alloc | apply Kd.S_drewN | apply Kd.S_drew)); exact HO_3.out⟩, ⟨by repeat (first | (with_reducible first | exact HB.out | apply aW1 | apply aW2 | apply aW3) | exact HB.out)⟩⟩
       ·rw [if_neg c9] at H
        exact absurd H (by simp)
      ·rw [if_neg c7] at H
       exact absurd H (by simp)
     ·rw [if_neg c6] at H; have c6b0 : decide (x4_1 < (l0.length : Int)) = false := decide_eq_false c6; clear c6
      obtain rfl := Option.some.inj H
      go_wp2
      go_ret
      exact ⟨_, by first | rfl | (simp [errW_none, errW_some] <;> rfl) | (simp [*, errW_none, errW_some] <;> rfl), by (with_reducible repeat (first | apply Kd.S_alloc | apply Kd.S_drewN | apply Kd.S_drew)); exact HO_3.out, by repeat (first | (with_reducible first | exact HB.out | apply aW1 | apply aW2 | apply aW3) | exact HB.out)⟩
  ·rw [if_neg c3] at H
   exact absurd H (by simp)
 ·rw [if_neg c2] at H
  exact absurd H (by simp)

/-! ### laws_toChain: function 21 -/
def laws_toChain.f (k : Nat) (a0_0 : Int) (l0_1 : List (S62)) : Option (Int × (List (S26))) := (laws_toAlarmS.f k l0_1).bind fun t173 => (some (a0_0, t173))
theorem laws_toChain.mono : ∀ a0 a1 k, LeO (laws_toChain.f k a0 a1) (laws_toChain.f (k + 1) a0 a1) := by
 intro a0 a1 k
 unfold laws_toChain.f
 repeat' first
   | (with_reducible exact laws_toAlarmS.mono _ _)
   | (with_reducible exact LeO.refl _)
   | (with_reducible exact LeO.none _)
   | (with_reducible refine LeO.ite ?_ ?_)
   | (with_reducible refine LeO.bind ?_ (fun _ => ?_))
   | exact laws_toAlarmS.mono _ _
   | exact LeO.none _
   | refine LeO.ite ?_ ?_
   | refine LeO.bind ?_ (fun _ => ?_)
set_option maxHeartbeats 8000000 in
set_option maxRecDepth 100000 in
theorem laws_toChain.calls (k : Nat) (a0_0 : Int) (A0_1 : Option Addr) (c0_1 : Nat) (l0_1 : List (S62)) (r1 : Int) (r2 : List (S26)) (w : World) (hr0_1 : Kd.C k62 w A0_1 l0_1.length l0_1) (hc0_1 : l0_1.length ≤ c0_1) (h : laws_toChain.f k a0_0 l0_1 = some (r1, r2)) :
  Calls Try.prog 21 #[.agg #[.int .i64 a0_0, .slice A0_1 l0_1.length c0_1]] w fun e w' => ∃ v1_ : Value, e = .returned (.agg #[.int .i64 r1, v1_]) ∧ Kd.S k26 26 w' w.heap.size (fun _ => True) v1_ r2 ∧ Below w.heap.size w w' := by
 have hu35 := Try.underlying35
 have hu39 := Try.underlying39
 have HR0_1 := aM hr0_1
 have HC0_1 := aM hc0_1
 clear hr0_1 hc0_1
 have HB := aM (Below.refl w.heap.size w)
 have H : ((laws_toAlarmS.f k l0_1).bind fun t173 => (some (a0_0, t173))) = some (r1, r2) := h
 clear h; replace H := Option.bind_eq_some_iff.mp H; obtain ⟨t173, A20, H⟩ := H; try dsimp only at H
 have A2 := aM A20
 clear A20
 simp only [Option.some.injEq, Prod.mk.injEq] at H
 obtain ⟨rfl, rfl⟩ := H
 go_enter Try.func21, Try.ntmps21
 go_wp2_with (first | ((with_reducible refine gate_dst (N := 1) rfl ?_); refine box_event ?hg (N := 1) ?hd (cs := #[.int .i64 a0_0, .slice A0_1 l0_1.length c0_1]) (t := 35) ?hr ?_; (case hd => rfl); (case hg => rfl); (case hr => first | (go_simp; done) | (go_simp; rfl)); intro gb170 hg w3 hbox hb; have n0_ := aM (below_step (by repeat (first | (with_reducible first | exact HB.out | apply aW1 | apply aW2 | apply aW3) | exact HB.out)) hb); have n1_ := aM (hbox); have n2_ := aM ((by rw [hg]; exact (below_size (by repeat (first | (with_reducible first | exact HB.out | apply aW1 | apply aW2 | apply aW3) | exact HB.out))) : w.heap.size ≤ gb170)); have n3_ := aM ((by rw [hg]; exact (below_size (by repeat (first | (with_reducible first | exact HB.out | apply aW1 | apply aW2 | apply aW3) | exact HB.out))) : w.heap.size ≤ gb170)); clear HB; have HB := n0_; have BK170 := n1_; have GW170 := n2_; have GE170 := n3_; clear n0_ n1_ n2_ n3_ hb hbox hg) | ((with_reducible refine gate_dst (N := 2) rfl ?_); refine box_event ?hg (N := 2) ?hd (cs := #[.int .i64 0, .slice none 0 0]) (t := 39) ?hr ?_; (case hd => rfl); (case hg => rfl); (case hr => first | (go_simp; done) | (go_simp; rfl)); intro gb171 hg w4 hbox hb; have n0_ := bb BK170 hb; have n1_ := aM (below_step (by repeat (first | (with_reducible first | exact HB.out | apply aW1 | apply aW2 | apply aW3 | refine below_set ?_ GE170.out) | exact HB.out)) hb); have n2_ := aM (hbox); have n3_ := aM ((by rw [hg]; exact (below_size (by repeat (first | (with_reducible first | exact HB.out | apply aW1 | apply aW2 | apply aW3 | refine below_set ?_ GE170.out) | exact HB.out))) : w.heap.size ≤ gb171)); have n4_ := aM ((by rw [hg]; exact (below_size (by repeat (first | (with_reducible first | exact HB.out | apply aW1 | apply aW2 | apply aW3 | refine below_set ?_ GE170.out) | exact HB.out))) : w.heap.size ≤ gb171)); have n5_ := aM ((by rw [hg]; exact Nat.ne_of_lt (blk_lt (g := gb170) (aB BK170)) : gb170 ≠ gb171)); have n6_ := aM ((by rw [hg]; exact Nat.ne_of_gt (blk_lt (g := gb170) (aB BK170)) : gb171 ≠ gb170)); clear BK170 HB; have BK170 := n0_; have HB := n1_; have BK171 := n2_; have GW171 := n3_; have GE171 := n4_; have NB170_171 := n5_; have NB171_170 := n6_; clear n0_ n1_ n2_ n3_ n4_ n5_ n6_ hb hbox hg) | ((with_reducible refine gate_dst (N := 3) rfl ?_); refine box_event ?hg (N := 3) ?hd (cs := #[.int .i64 0, .slice none 0 0]) (t := 39) ?hr ?_; (case hd => rfl); (case hg => rfl); (case hr => first | (go_simp; done) | (go_simp; rfl)); intro gb172 hg w5 hbox hb; have n0_ := bb BK170 hb; have n1_ := bb BK171 hb; have n2_ := aM (below_step (by repeat (first | (with_reducible first | exact HB.out | apply aW1 | apply aW2 | apply aW3 | refine below_set ?_ GE170.out | refine below_set ?_ GE171.out) | exact HB.out)) hb); have n3_ := aM (hbox); have n4_ := aM ((by rw [hg]; exact (below_size (by repeat (first | (with_reducible first | exact HB.out | apply aW1 | apply aW2 | apply aW3 | refine below_set ?_ GE170.out | refine below_set ?_ GE171.out) | exact HB.out))) : w.heap.size ≤ gb172)); have n5_ := aM ((by rw [hg]; exact (below_size (by repeat (first | (with_reducible first | exact HB.out | apply aW1 | apply aW2 | apply aW3 | refine below_set ?_ GE170.out | refine below_set ?_ GE171.out) | exact HB.out))) : w.heap.size ≤ gb172)); have n6_ := aM ((by rw [hg]; exact Nat.ne_of_lt (blk_lt (g := gb170) (aB BK170)) : gb170 ≠ gb172)); have n7_ := aM ((by rw [hg]; exact Nat.ne_of_gt (blk_lt (g := gb170) (aB BK170)) : gb172 ≠ gb170)); have n8_ := aM ((by rw [hg]; exact Nat.ne_of_lt (blk_lt (g := gb171) (aB BK171)) : gb171 ≠ gb172)); have n9_ := aM ((by rw [hg]; exact Nat.ne_of_gt (blk_lt (g := gb171) (aB BK171)) : gb172 ≠ gb171)); clear BK170 BK171 HB; have BK170 := n0_; have BK171 := n1_; have HB := n2_; have BK172 := n3_; have GW172 := n4_; have GE172 := n5_; have NB170_172 := n6_; have NB172_170 := n7_; have NB171_172 := n8_; have NB172_171 := n9_; clear n0_ n1_ n2_ n3_ n4_ n5_ n6_ n7_ n8_ n9_ hb hbox hg; have hnb6 := NB170_171.out; have hnc6 := NB171_170.out; have hnb7 := NB170_172.out; have hnc7 := NB172_170.out; have hcz8_0 := cz2_0 BK170; have hcz8_1 := cz2_1 BK170; have hfz8_0 := blk_frozen BK170.out 0; have hfz8_1 := blk_frozen BK170.out 1; have hnb9 := NB172_171.out; have hnc9 := NB171_172.out; have hcz10_0 := cz2_0 BK172; have hcz10_1 := cz2_1 BK172; have hfz10_0 := blk_frozen BK172.out 0; have hfz10_1 := blk_frozen BK172.out 1) | ((with_reducible refine gate_callee (f := 47) rfl ?_); refine goesL_ (some 9) rfl rfl Try.func47 (by kernel_rfl) rfl #[.slice A0_1 l0_1.length c0_1] rfl (by (try simp only [List.map_toArray, List.map_cons, List.map_nil]); first | done | rfl | (simp only [List.length_drop, List.length_take]; rfl)) ?_; (with_reducible refine (laws_toAlarmS.calls k _ _ l0_1 t173 _ ?side1 ?side2 A2.out).mono ?_); (case side1 => exact Kd.C_below HR0_1.out (by repeat (first | (with_reducible first | exact HB.out | apply aW1 | apply aW2 | apply aW3 | refine below_set ?_ GE170.out | refine below_set ?_ GE171.out | refine below_set ?_ GE172.out) | exact HB.out))); (case side2 => exact HC0_1.out); rintro e w11 ⟨v174, rfl, ho0, hb⟩; refine ⟨_, rfl, ?_⟩; have n0_ := aM (Kd.S_lower ho0 (below_size (by repeat (first | (with_reducible first | exact HB.out | apply aW1 | apply aW2 | apply aW3 | refine below_set ?_ GE170.out | refine below_set ?_ GE171.out | refine below_set ?_ GE172.out) | exact HB.out)))); have n1_ := aM (blk_below (g := gb170) (o := .cells #[.int .i64 a0_0, .slice A0_1 l0_1.length c0_1] 35 (0, 0)) (by (with_reducible repeat (first | refine aB1 ?_ _ | refine aB2 ?_ | refine aB3 ?_ _)); refine blk_far ?_ NB170_172.out _; (with_reducible repeat (first | refine aB1 ?_ _ | refine aB2 ?_ | refine aB3 ?_ _)); exact BK170.out) hb); have n2_ := aM (blk_below (g := gb171) (o := .cells #[.int .i64 0, .slice none 0 0] 39 (0, 0)) (by (with_reducible repeat (first | refine aB1 ?_ _ | refine aB2 ?_ | refine aB3 ?_ _)); refine blk_far ?_ NB171_172.out _; (with_reducible repeat (first | refine aB1 ?_ _ | refine aB2 ?_ | refine aB3 ?_ _)); exact BK171.out) hb); have n3_ := aM (blk_below (g := gb172) (o := .cells #[.int .i64 a0_0, .slice none 0 0] 39 (0, 0)) (by (with_reducible repeat (first | refine aB1 ?_ _ | refine aB2 ?_ | refine aB3 ?_ _)); refine blk_put (cs := #[.int .i64 0, .slice none 0 0]) ?_ 0 _ rfl; (with_reducible repeat (first | refine aB1 ?_ _ | refine aB2 ?_ | refine aB3 ?_ _)); exact BK172.out) hb); have n4_ := aM (below_step (by repeat (first | (with_reducible first | exact HB.out | apply aW1 | apply aW2 | apply aW3 | refine below_set ?_ GE170.out | refine below_set ?_ GE171.out | refine below_set ?_ GE172.out) | exact HB.out)) hb); clear BK170 BK171 BK172 HB; have HO175 := n0_; have BK170 := n1_; have BK171 := n2_; have BK172 := n3_; have HB := n4_; clear n0_ n1_ n2_ n3_ n4_; (try clear hb); (try clear hb2); (try clear hk); (try clear hi); (try clear ho0); obtain ⟨Ao12, co12, eo12⟩ := Kd.S_slice HO175.out; subst eo12; have hcz13_0 := cz2_0 BK172; have hcz13_1 := cz2_1 BK172; have hfz13_0 := blk_frozen BK172.out 0; have hfz13_1 := blk_frozen BK172.out 1; have hcz14_0 := cz2_0 BK171; have hcz14_1 := cz2_1 BK171; have hfz14_0 := blk_frozen BK171.out 0; have hfz14_1 := blk_frozen BK171.out 1))
 refine bodyPost_ret (results_cell_row rfl _ _ gb171 39 #[.int .i64 a0_0, .slice Ao12 t173.length co12] (0, 0) _ rfl (by (with_reducible repeat (first | refine aB1 ?_ _ | refine aB2 ?_ | refine aB3 ?_ _)); refine blk_put (cs := #[.int .i64 a0_0, .slice none 0 0]) ?_ 1 _ rfl; (with_reducible repeat (first | refine aB1 ?_ _ | refine aB2 ?_ | refine aB3 ?_ _)); refine blk_put (cs := #[.int .i64 0, .slice none 0 0]) ?_ 0 _ rfl; (with_reducible repeat (first | refine aB1 ?_ _ | refine aB2 ?_ | refine aB3 ?_ _)); refine blk_far ?_ NB171_172.out _; (with_reducible repeat (first | refine aB1 ?_ _ | refine aB2 ?_ | refine aB3 ?_ _)); exact BK171.out) Try.underlying39 rfl (by kernel_rfl)) rfl ?_
 exact ⟨_, by first | rfl | (simp [errW_none, errW_some] <;> rfl) | (simp [*, errW_none, errW_some] <;> rfl), by (with_reducible repeat (first | apply Kd.S_alloc | apply Kd.S_drewN | apply Kd.S_drew)); exact Kd.S_mono (Kd.S_far (p := ⟨gb171, 1, none⟩) (Kd.S_far (p := ⟨gb171, 0, none⟩) (Kd.S_far (p := ⟨gb172, 1, none⟩) (Kd.S_types (Kd.S_types HO175.out BK172.out (by decide)) BK171.out (by decide)) (fun _ hk => hk.1.2) (.slice Ao12 t173.length co12)) (fun _ hk => hk.2) (.int .i64 a0_0)) (fun _ hk => hk.2) (.slice Ao12 t173.length co12)) (fun _ hk => trivial), by repeat (first | (with_reducible first | exact HB.out | apply aW1 | apply aW2 | apply aW3 | refine below_set ?_ GE170.out | refine below_set ?_ GE171.out | refine below_set ?_ GE172.out) | exact HB.out)⟩

/-! ### impl_copySet: function 87 (a contract of the shelf) -/
def impl_copySet.f (l0 : List (S89)) : Option (List (S89)) := if l0.length < 4398046511104 then some l0 else none
set_option maxHeartbeats 8000000 in
set_option maxRecDepth 100000 in
theorem impl_copySet.calls (A0 : Option Addr) (c0 : Nat) (l0 : List (S89)) (r : List (S89)) (w : World) (hr0 : Kd.C k89 w A0 l0.length l0) (hc0 : l0.length ≤ c0) (h : impl_copySet.f l0 = some r) :
  Calls Try.prog 87 #[.slice A0 l0.length c0] w fun e w' => ∃ v0_ : Value, e = .returned (v0_) ∧ Kd.R k89 89 w' w.heap.size (fun _ => True) v0_ r ∧ Below w.heap.size w w' := by
 have HR0 := aM hr0
 have HC0 := aM hc0
 clear hr0 hc0
 have HB := aM (Below.refl w.heap.size w)
 unfold impl_copySet.f at h
 by_cases c2 : l0.length < 4398046511104
 ·rw [if_pos c2] at h
  have LM := aM c2
  clear c2
  obtain rfl := Option.some.inj h
  clear h
  go_enter Try.func87, Try.ntmps87
  go_wp2_with (first | ((with_reducible refine gate_builtin (b := .append) (xs := #[.const (.slice none 0 0), .tmp 3]) rfl ?_); at_builtin; refine Kd.R_append_rows k89 (w0 := w) w.heap.size rfl (.const (.slice none 0 0)) (.tmp 3) 24 89 (.agg #[(.string ⟨#[]⟩), (.string ⟨#[]⟩)]) 32 rfl Try.underlying24 (by kernel_rfl) rfl (by decide) (by omega) (.slice none 0 0) [] l0 _ _ _ (fun _ => True) (fun _ => False) rfl rfl ?aO ?aR (fun _ _ h => h) (fun _ h => h.elim) ?aF ?aB ?aS ?aL ?_; (case aR => repeat (first | exact (Kd.C_below HR0.out HB.out) | (with_reducible refine Kd.C_alloc ?_ _) | (with_reducible refine Kd.C_drewN ?_ _) | (with_reducible refine Kd.C_drew ?_))); (case aB => exact (by repeat (first | (with_reducible first | exact HB.out | apply aW1 | apply aW2 | apply aW3) | exact HB.out))); (case aF => exact (fun _ _ => trivial)); (case aO => exact Kd.R_nil _ _ _ _ _); (case aS => exact (below_size (by repeat (first | (with_reducible first | exact HB.out | apply aW1 | apply aW2 | apply aW3) | exact HB.out)))); (case aL => have := LM.out; simp; omega); intro v123 w9 ho hb hg hat; rw [List.nil_append] at ho; have n2_ := aM (hb); have n3_ := aM (ho); clear HB; have HB := n2_; have HO := n3_; clear n2_ n3_ ho hb hg hat))
  go_ret
  exact ⟨_, rfl, by (with_reducible repeat (first | apply aR1 | apply aR2 | apply aR3)); exact HO.out, by repeat (first | (with_reducible first | exact HB.out | apply aW1 | apply aW2 | apply aW3) | exact HB.out)⟩
 ·rw [if_neg c2] at h
  exact absurd h (by simp)

/-! ### impl_copyAlarm: function 57 -/
def impl_copyAlarm.f (l0_0 : List (S89)) (a0_1 : Int) (a0_2 : Int) (a0_3 : ByteArray) : Option ((List (S89)) × Int × Int × ByteArray) := (impl_copySet.f l0_0).bind fun t178 => (some (t178, a0_1, a0_2, a0_3))
set_option maxHeartbeats 8000000 in
set_option maxRecDepth 100000 in
theorem impl_copyAlarm.calls (A0_0 : Option Addr) (c0_0 : Nat) (l0_0 : List (S89)) (a0_1 : Int) (a0_2 : Int) (a0_3 : ByteArray) (r1 : List (S89)) (r2 : Int) (r3 : Int) (r4 : ByteArray) (w : World) (hr0_0 : Kd.C k89 w A0_0 l0_0.length l0_0) (hc0_0 : l0_0.length ≤ c0_0) (h : impl_copyAlarm.f l0_0 a0_1 a0_2 a0_3 = some (r1, r2, r3, r4)) :
  Calls Try.prog 57 #[.agg #[.slice A0_0 l0_0.length c0_0, .int .i64 a0_1, .int .i64 a0_2, .string a0_3]] w fun e w' => ∃ v0_ : Value, e = .returned (.agg #[v0_, .int .i64 r2, .int .i64 r3, .string r4]) ∧ Kd.R k89 89 w' w.heap.size (fun _ => True) v0_ r1 ∧ Below w.heap.size w w' := by
 have hu26 := Try.underlying26
 have HR0_0 := aM hr0_0
 have HC0_0 := aM hc0_0
 clear hr0_0 hc0_0
 have HB := aM (Below.refl w.heap.size w)
 have H : ((impl_copySet.f l0_0).bind fun t178 => (some (t178, a0_1, a0_2, a0_3))) = some (r1, r2, r3, r4) := h
 clear h; replace H := Option.bind_eq_some_iff.mp H; obtain ⟨t178, A20, H⟩ := H; try dsimp only at H
 have A2 := aM A20
 clear A20
 simp only [Option.some.injEq, Prod.mk.injEq] at H
 obtain ⟨rfl, rfl, rfl, rfl⟩ := H
 go_enter Try.func57, Try.ntmps57
 go_wp2_with (first | ((with_reducible refine gate_dst (N := 1) rfl ?_); refine box_event ?hg (N := 1) ?hd (cs := #[.slice A0_0 l0_0.length c0_0, .int .i64 a0_1, .int .i64 a0_2, .string a0_3]) (t := 26) ?hr ?_; (case hd => rfl); (case hg => rfl); (case hr => first | (go_simp; done) | (go_simp; rfl)); intro gb176 hg w3 hbox hb; have n0_ := aM (below_step (by repeat (first | (with_reducible first | exact HB.out | apply aW1 | apply aW2 | apply aW3) | exact HB.out)) hb); have n1_ := aM (hbox); have n2_ := aM ((by rw [hg]; exact (below_size (by repeat (first | (with_reducible first | exact HB.out | apply aW1 | apply aW2 | apply aW3) | exact HB.out))) : w.heap.size ≤ gb176)); have n3_ := aM ((by rw [hg]; exact (below_size (by repeat (first | (with_reducible first | exact HB.out | apply aW1 | apply aW2 | apply aW3) | exact HB.out))) : w.heap.size ≤ gb176)); clear HB; have HB := n0_; have BK176 := n1_; have GW176 := n2_; have GE176 := n3_; clear n0_ n1_ n2_ n3_ hb hbox hg) | ((with_reducible refine gate_dst (N := 2) rfl ?_); refine box_event ?hg (N := 2) ?hd (cs := #[.slice none 0 0, .int .i64 0, .int .i64 0, .string (⟨#[]⟩ : ByteArray)]) (t := 26) ?hr ?_; (case hd => rfl); (case hg => rfl); (case hr => first | (go_simp; done) | (go_simp; rfl)); intro gb177 hg w4 hbox hb; have n0_ := bb BK176 hb; have n1_ := aM (below_step (by repeat (first | (with_reducible first | exact HB.out | apply aW1 | apply aW2 | apply aW3 | refine below_set ?_ GE176.out) | exact HB.out)) hb); have n2_ := aM (hbox); have n3_ := aM ((by rw [hg]; exact (below_size (by repeat (first | (with_reducible first | exact HB.out | apply aW1 | apply aW2 | apply aW3 | refine below_set ?_ GE176.out) | exact HB.out))) : w.heap.size ≤ gb177)); have n4_ := aM ((by rw [hg]; exact (below_size (by repeat (first | (with_reducible first | exact HB.out | apply aW1 | apply aW2 | apply aW3 | refine below_set ?_ GE176.out) | exact HB.out))) : w.heap.size ≤ gb177)); have n5_ := aM ((by rw [hg]; exact Nat.ne_of_lt (blk_lt (g := gb176) (aB BK176)) : gb176 ≠ gb177)); have n6_ := aM ((by rw [hg]; exact Nat.ne_of_gt (blk_lt (g := gb176) (aB BK176)) : gb177 ≠ gb176)); clear BK176 HB; have BK176 := n0_; have HB := n1_; have BK177 := n2_; have GW177 := n3_; have GE177 := n4_; have NB176_177 := n5_; have NB177_176 := n6_; clear n0_ n1_ n2_ n3_ n4_ n5_ n6_ hb hbox hg; have hnb5 := NB176_177.out; have hnc5 := NB177_176.out; have hcz6_0 := cz4_0 BK176; have hcz6_1 := cz4_1 BK176; have hcz6_2 := cz4_2 BK176; have hcz6_3 := cz4_3 BK176; have hfz6_0 := blk_frozen BK176.out 0; have hfz6_1 := blk_frozen BK176.out 1; have hfz6_2 := blk_frozen BK176.out 2; have hfz6_3 := blk_frozen BK176.out 3) | ((with_reducible refine gate_callee (f := 87) rfl ?_); refine goesL_ (some 5) rfl rfl Try.func87 (by kernel_rfl) rfl #[.slice A0_0 l0_0.length c0_0] rfl (by (try simp only [List.map_toArray, List.map_cons, List.map_nil]); first | done | rfl | (simp only [List.length_drop, List.length_take]; rfl)) ?_; (with_reducible refine (impl_copySet.calls _ _ l0_0 t178 _ ?side1 ?side2 A2.out).mono ?_); (case side1 => repeat (first | exact (Kd.C_below HR0_0.out HB.out) | (with_reducible refine Kd.C_alloc ?_ _) | (with_reducible refine Kd.C_drewN ?_ _) | (with_reducible refine Kd.C_drew ?_))); (case side2 => exact HC0_0.out); rintro e w7 ⟨v179, rfl, ho0, hb⟩; refine ⟨_, rfl, ?_⟩; have n0_ := aM (Kd.R_lower ho0 (below_size (by repeat (first | (with_reducible first | exact HB.out | apply aW1 | apply aW2 | apply aW3 | refine below_set ?_ GE176.out | refine below_set ?_ GE177.out) | exact HB.out)))); have n1_ := bb BK176 hb; have n2_ := bb BK177 hb; have n3_ := aM (below_step (by repeat (first | (with_reducible first | exact HB.out | apply aW1 | apply aW2 | apply aW3 | refine below_set ?_ GE176.out | refine below_set ?_ GE177.out) | exact HB.out)) hb); clear BK176 BK177 HB; have HO180 := n0_; have BK176 := n1_; have BK177 := n2_; have HB := n3_; clear n0_ n1_ n2_ n3_; (try clear hb); (try clear hb2); (try clear hk); (try clear hi); (try clear ho0); obtain ⟨Ao8, co8, eo8⟩ := Kd.R_slice HO180.out; subst eo8; have hcz9_0 := cz4_0 BK176; have hcz9_1 := cz4_1 BK176; have hcz9_2 := cz4_2 BK176; have hcz9_3 := cz4_3 BK176; have hfz9_0 := blk_frozen BK176.out 0; have hfz9_1 := blk_frozen BK176.out 1; have hfz9_2 := blk_frozen BK176.out 2; have hfz9_3 := blk_frozen BK176.out 3; have hcz10_0 := cz4_0 BK177; have hcz10_1 := cz4_1 BK177; have hcz10_2 := cz4_2 BK177; have hcz10_3 := cz4_3 BK177; have hfz10_0 := blk_frozen BK177.out 0; have hfz10_1 := blk_frozen BK177.out 1; have hfz10_2 := blk_frozen BK177.out 2; have hfz10_3 := blk_frozen BK177.out 3))
 refine bodyPost_ret (results_cell_row rfl _ _ gb177 26 #[.slice Ao8 t178.length co8, .int .i64 a0_1, .int .i64 a0_2, .string a0_3] (0, 0) _ rfl (by (with_reducible repeat (first | refine aB1 ?_ _ | refine aB2 ?_ | refine aB3 ?_ _)); refine blk_put (cs := #[.slice Ao8 t178.length co8, .int .i64 a0_1, .int .i64 a0_2, .string (⟨#[]⟩ : ByteArray)]) ?_ 3 _ rfl; (with_reducible repeat (first | refine aB1 ?_ _ | refine aB2 ?_ | refine aB3 ?_ _)); refine blk_put (cs := #[.slice Ao8 t178.length co8, .int .i64 a0_1, .int .i64 0, .string (⟨#[]⟩ : ByteArray)]) ?_ 2 _ rfl; (with_reducible repeat (first | refine aB1 ?_ _ | refine aB2 ?_ | refine aB3 ?_ _)); refine blk_put (cs := #[.slice Ao8 t178.length co8, .int .i64 0, .int .i64 0, .string (⟨#[]⟩ : ByteArray)]) ?_ 1 _ rfl; (with_reducible repeat (first | refine aB1 ?_ _ | refine aB2 ?_ | refine aB3 ?_ _)); refine blk_put (cs := #[.slice none 0 0, .int .i64 0, .int .i64 0, .string (⟨#[]⟩ : ByteArray)]) ?_ 0 _ rfl; (with_reducible repeat (first | refine aB1 ?_ _ | refine aB2 ?_ | refine aB3 ?_ _)); refine blk_far ?_ NB177_176.out _; (with_reducible repeat (first | refine aB1 ?_ _ | refine aB2 ?_ | refine aB3 ?_ _)); exact BK177.out) Try.underlying26 rfl (by kernel_rfl)) rfl ?_
 exact ⟨_, by first | rfl | (simp [errW_none, errW_some] <;> rfl) | (simp [*, errW_none, errW_some] <;> rfl), by (with_reducible repeat (first | apply aR1 | apply aR2 | apply aR3)); exact Kd.R_mono (Kd.R_far (p := ⟨gb177, 3, none⟩) (Kd.R_far (p := ⟨gb177, 2, none⟩) (Kd.R_far (p := ⟨gb177, 1, none⟩) (Kd.R_far (p := ⟨gb177, 0, none⟩) (Kd.R_far (p := ⟨gb176, 0, none⟩) (Kd.R_types (Kd.R_types HO180.out BK176.out (by decide)) BK177.out (by decide)) (fun _ hk => hk.1.2) (.slice Ao8 t178.length co8)) (fun _ hk => hk.2) (.slice Ao8 t178.length co8)) (fun _ hk => hk.2) (.int .i64 a0_1)) (fun _ hk => hk.2) (.int .i64 a0_2)) (fun _ hk => hk.2) (.string a0_3)) (fun _ hk => trivial), by repeat (first | (with_reducible first | exact HB.out | apply aW1 | apply aW2 | apply aW3 | refine below_set ?_ GE176.out | refine below_set ?_ GE177.out) | exact HB.out)⟩

/-! ### impl_Over: function 64 -/
def impl_Over.f (l0_0 : List (S89)) (a0_1 : Int) (a0_2 : Int) (a0_3 : ByteArray) (a1 : Int) : Option (Bool) := some (decide (a0_2 ≤ a1))
set_option maxHeartbeats 8000000 in
set_option maxRecDepth 100000 in
theorem impl_Over.calls (A0_0 : Option Addr) (c0_0 : Nat) (l0_0 : List (S89)) (a0_1 : Int) (a0_2 : Int) (a0_3 : ByteArray) (a1 : Int) (r : Bool) (w : World) (hr0_0 : Kd.C k89 w A0_0 l0_0.length l0_0) (hc0_0 : l0_0.length ≤ c0_0) (h : impl_Over.f l0_0 a0_1 a0_2 a0_3 a1 = some r) :
  Calls Try.prog 64 #[.agg #[.slice A0_0 l0_0.length c0_0, .int .i64 a0_1, .int .i64 a0_2, .string a0_3], .int .i64 a1] w fun e w' => e = .returned (.bool r) ∧ Below w.heap.size w w' := by
 have hu26 := Try.underlying26
 have HR0_0 := aM hr0_0
 have HC0_0 := aM hc0_0
 clear hr0_0 hc0_0
 have HB := aM (Below.refl w.heap.size w)
 have H : (some (decide (a0_2 ≤ a1))) = some r := h
 clear h
 obtain rfl := Option.some.inj H
 go_enter Try.func64, Try.ntmps64
 go_wp2_with (first | ((with_reducible refine gate_dst (N := 2) rfl ?_); refine box_event ?hg (N := 2) ?hd (cs := #[.slice A0_0 l0_0.length c0_0, .int .i64 a0_1, .int .i64 a0_2, .string a0_3]) (t := 26) ?hr ?_; (case hd => rfl); (case hg => rfl); (case hr => first | (go_simp; done) | (go_simp; rfl)); intro gb181 hg w3 hbox hb; have n0_ := aM (below_step (by repeat (first | (with_reducible first | exact HB.out | apply aW1 | apply aW2 | apply aW3) | exact HB.out)) hb); have n1_ := aM (hbox); have n2_ := aM ((by rw [hg]; exact (below_size (by repeat (first | (with_reducible first | exact HB.out | apply aW1 | apply aW2 | apply aW3) | exact HB.out))) : w.heap.size ≤ gb181)); have n3_ := aM ((by rw [hg]; exact (below_size (by repeat (first | (with_reducible first | exact HB.out | apply aW1 | apply aW2 | apply aW3) | exact HB.out))) : w.heap.size ≤ gb181)); clear HB; have HB := n0_; have BK181 := n1_; have GW181 := n2_; have GE181 := n3_; clear n0_ n1_ n2_ n3_ hb hbox hg; have hcz4_0 := cz4_0 BK181; have hcz4_1 := cz4_1 BK181; have hcz4_2 := cz4_2 BK181; have hcz4_3 := cz4_3 BK181; have hfz4_0 := blk_frozen BK181.out 0; have hfz4_1 := blk_frozen BK181.out 1; have hfz4_2 := blk_frozen BK181.out 2; have hfz4_3 := blk_frozen BK181.out 3))
 go_ret
 exact ⟨by first | rfl | (simp [errW_none, errW_some] <;> rfl) | (simp [*, errW_none, errW_some] <;> rfl), by repeat (first | (with_reducible first | exact HB.out | apply aW1 | apply aW2 | apply aW3 | refine below_set ?_ GE181.out) | exact HB.out)⟩

/-! ### impl_DropOver: function 22 -/
def impl_DropOver.l0 : Nat → Int → List (S26) → List (S26) → Int → Int → Int → List (S26) → Option (Int × (List (S26)) × (List (S26)))
 | 0, _, _, _, _, _, _, _ => none
 | k + 1, x1, x7, x14, x15, x16, x185000, x185001 => if x16 < x15 then (if 0 ≤ x16 then (if x16 < (x14.length : Int) then ((impl_Over.f ((rd_T26 x14 x16).f0) ((rd_T26 x14 x16).f1) ((rd_T26 x14 x16).f2) ((rd_T26 x14 x16).f3) x1).bind fun t187 => (if t187 = true then ((impl_copyAlarm.f ((rd_T26 x14 x16).f0) ((rd_T26 x14 x16).f1) ((rd_T26 x14 x16).f2) ((rd_T26 x14 x16).f3)).bind fun bt188 => (if x7.length < 2513169434916 then (impl_DropOver.l0 k x1 (x7 ++ [(⟨bt188.1, bt188.2.1, bt188.2.2.1, bt188.2.2.2⟩ : S26)]) x14 x15 (wrap64 (x16 + 1)) x185000 x185001) else (none))) else ((impl_copyAlarm.f ((rd_T26 x14 x16).f0) ((rd_T26 x14 x16).f1) ((rd_T26 x14 x16).f2) ((rd_T26 x14 x16).f3)).bind fun bt197 => (if x185001.length < 2513169434916 then (impl_DropOver.l0 k x1 x7 x14 x15 (wrap64 (x16 + 1)) x185000 (x185001 ++ [(⟨bt197.1, bt197.2.1, bt197.2.2.1, bt197.2.2.2⟩ : S26)])) else (none))))) else (none)) else (none)) else (some (x185000, x185001, x7))
def impl_DropOver.f (k : Nat) (a0_0 : Int) (l0_1 : List (S26)) (a1 : Int) : Option (Int × (List (S26)) × (List (S26))) := impl_DropOver.l0 k a1 ([] : List (S26)) l0_1 (l0_1.length : Int) 0 a0_0 ([] : List (S26))
theorem impl_DropOver.mono_l : ∀ k, (∀ y0 y1 y2 y3 y4 y5 y6, LeO (impl_DropOver.l0 k y0 y1 y2 y3 y4 y5 y6) (impl_DropOver.l0 (k + 1) y0 y1 y2 y3 y4 y5 y6))
 | 0 => fun _ _ _ _ _ _ _ r h => by simp [impl_DropOver.l0] at h
 | k + 1 => by
  have ih0 := impl_DropOver.mono_l k
  ·intro y0 y1 y2 y3 y4 y5 y6
   unfold impl_DropOver.l0
   repeat' first
   | (with_reducible exact ih0 _ _ _ _ _ _ _)
   | (with_reducible exact LeO.refl _)
   | (with_reducible exact LeO.none _)
   | (with_reducible refine LeO.ite ?_ ?_)
   | (with_reducible refine LeO.bind ?_ (fun _ => ?_))
   | exact ih0 _ _ _ _ _ _ _
   | exact LeO.none _
   | refine LeO.ite ?_ ?_
   | refine LeO.bind ?_ (fun _ => ?_)
theorem impl_DropOver.mono : ∀ a0 a1 a2 k, LeO (impl_DropOver.f k a0 a1 a2) (impl_DropOver.f (k + 1) a0 a1 a2) := by
 intro a0 a1 a2 k
 have ih0 := impl_DropOver.mono_l k
 unfold impl_DropOver.f
 repeat' first
   | (with_reducible exact ih0 _ _ _ _ _ _ _)
   | (with_reducible exact LeO.refl _)
   | (with_reducible exact LeO.none _)
   | (with_reducible refine LeO.ite ?_ ?_)
   | (with_reducible refine LeO.bind ?_ (fun _ => ?_))
   | exact ih0 _ _ _ _ _ _ _
   | exact LeO.none _
   | refine LeO.ite ?_ ?_
   | refine LeO.bind ?_ (fun _ => ?_)
def impl_DropOver.T8 : Bool × List (List Nat × List Nat) := (true, [([], []), ([0], [0]), ([], []), ([2], [2]), ([3], [3]), ([1, 4, 3], [1, 4]), ([0, 1, 2, 3, 4, 5], []), ([6, 5, 5, 0, 1, 2, 3, 4, 5], [5, 6])])
def impl_DropOver.B8 : List Nat := [0, 1, 0, 4, 12, 31, 63, 127]
theorem impl_DropOver.tab8 : rtab .any (opsOf Try.f22 8) = impl_DropOver.T8 := by kernel_rfl
theorem impl_DropOver.bits8 : waitsOk impl_DropOver.T8.2 impl_DropOver.B8 = true := by kernel_rfl
set_option maxHeartbeats 8000000 in
set_option maxRecDepth 100000 in
theorem impl_DropOver.calls (k : Nat) (a0_0 : Int) (A0_1 : Option Addr) (c0_1 : Nat) (l0_1 : List (S26)) (a1 : Int) (r1 : Int) (r2 : List (S26)) (r3 : List (S26)) (w : World) (hr0_1 : Kd.C k26 w A0_1 l0_1.length l0_1) (hc0_1 : l0_1.length ≤ c0_1) (h : impl_DropOver.f k a0_0 l0_1 a1 = some (r1, r2, r3)) :
  Calls Try.prog 22 #[.agg #[.int .i64 a0_0, .slice A0_1 l0_1.length c0_1], .int .i64 a1] w fun e w' => ∃ v1_ v2_ : Value, e = .returned (.tuple #[.agg #[.int .i64 r1, v1_], v2_]) ∧ Kd.S k26 26 w' w.heap.size (fun k_ => some k_ ≠ (v2_ : Value).ownBlock) v1_ r2 ∧ Kd.S k26 26 w' w.heap.size (fun k_ => some k_ ≠ (v1_ : Value).ownBlock) v2_ r3 ∧ Below w.heap.size w w' := by
 have hu39 := Try.underlying39
 have hu26 := Try.underlying26
 have HR0_1 := aM hr0_1
 have HC0_1 := aM hc0_1
 clear hr0_1 hc0_1
 have HB := aM (Below.refl w.heap.size w)
 have H : (impl_DropOver.l0 k a1 ([] : List (S26)) l0_1 (l0_1.length : Int) 0 a0_0 ([] : List (S26))) = some (r1, r2, r3) := h
 clear h
 have H' := aM H
 clear H
 go_enter Try.func22, Try.ntmps22
 go_wp2_with (first | ((with_reducible refine gate_dst (N := 2) rfl ?_); refine box_event ?hg (N := 2) ?hd (cs := #[.int .i64 a0_0, .slice A0_1 l0_1.length c0_1]) (t := 39) ?hr ?_; (case hd => rfl); (case hg => rfl); (case hr => first | (go_simp; done) | (go_simp; rfl)); intro gb182 hg w3 hbox hb; have n0_ := aM (below_step (by repeat (first | (with_reducible first | exact HB.out | apply aW1 | apply aW2 | apply aW3) | exact HB.out)) hb); have n1_ := aM (hbox); have n2_ := aM ((by rw [hg]; exact (below_size (by repeat (first | (with_reducible first | exact HB.out | apply aW1 | apply aW2 | apply aW3) | exact HB.out))) : w.heap.size ≤ gb182)); have n3_ := aM ((by rw [hg]; exact (below_size (by repeat (first | (with_reducible first | exact HB.out | apply aW1 | apply aW2 | apply aW3) | exact HB.out))) : w.heap.size ≤ gb182)); clear HB; have HB := n0_; have BK182 := n1_; have GW182 := n2_; have GE182 := n3_; clear n0_ n1_ n2_ n3_ hb hbox hg) | ((with_reducible refine gate_dst (N := 4) rfl ?_); refine box_event ?hg (N := 4) ?hd (cs := #[.int .i64 0, .slice none 0 0]) (t := 39) ?hr ?_; (case hd => rfl); (case hg => rfl); (case hr => first | (go_simp; done) | (go_simp; rfl)); intro gb183 hg w4 hbox hb; have n0_ := bb BK182 hb; have n1_ := aM (below_step (by repeat (first | (with_reducible first | exact HB.out | apply aW1 | apply aW2 | apply aW3 | refine below_set ?_ GE182.out) | exact HB.out)) hb); have n2_ := aM (hbox); have n3_ := aM ((by rw [hg]; exact (below_size (by repeat (first | (with_reducible first | exact HB.out | apply aW1 | apply aW2 | apply aW3 | refine below_set ?_ GE182.out) | exact HB.out))) : w.heap.size ≤ gb183)); have n4_ := aM ((by rw [hg]; exact (below_size (by repeat (first | (with_reducible first | exact HB.out | apply aW1 | apply aW2 | apply aW3 | refine below_set ?_ GE182.out) | exact HB.out))) : w.heap.size ≤ gb183)); have n5_ := aM ((by rw [hg]; exact Nat.ne_of_lt (blk_lt (g := gb182) (aB BK182)) : gb182 ≠ gb183)); have n6_ := aM ((by rw [hg]; exact Nat.ne_of_gt (blk_lt (g := gb182) (aB BK182)) : gb183 ≠ gb182)); clear BK182 HB; have BK182 := n0_; have HB := n1_; have BK183 := n2_; have GW183 := n3_; have GE183 := n4_; have NB182_183 := n5_; have NB183_182 := n6_; clear n0_ n1_ n2_ n3_ n4_ n5_ n6_ hb hbox hg; have hnb5 := NB182_183.out; have hnc5 := NB183_182.out; have hcz6_0 := cz2_0 BK182; have hcz6_1 := cz2_1 BK182; have hfz6_0 := blk_frozen BK182.out 0; have hfz6_1 := blk_frozen BK182.out 1) | ((with_reducible refine gate_dst (N := 6) rfl ?_); refine box_event ?hg (N := 6) ?hd (cs := #[.int .i64 0, .slice none 0 0]) (t := 39) ?hr ?_; (case hd => rfl); (case hg => rfl); (case hr => first | (go_simp; done) | (go_simp; rfl)); intro gb184 hg w7 hbox hb; have n0_ := bb BK182 hb; have n1_ := bb BK183 hb; have n2_ := aM (below_step (by repeat (first | (with_reducible first | exact HB.out | apply aW1 | apply aW2 | apply aW3 | refine below_set ?_ GE182.out | refine below_set ?_ GE183.out) | exact HB.out)) hb); have n3_ := aM (hbox); have n4_ := aM ((by rw [hg]; exact (below_size (by repeat (first | (with_reducible first | exact HB.out | apply aW1 | apply aW2 | apply aW3 | refine below_set ?_ GE182.out | refine below_set ?_ GE183.out) | exact HB.out))) : w.heap.size ≤ gb184)); have n5_ := aM ((by rw [hg]; exact (below_size (by repeat (first | (with_reducible first | exact HB.out | apply aW1 | apply aW2 | apply aW3 | refine below_set ?_ GE182.out | refine below_set ?_ GE183.out) | exact HB.out))) : w.heap.size ≤ gb184)); have n6_ := aM ((by rw [hg]; exact Nat.ne_of_lt (blk_lt (g := gb182) (aB BK182)) : gb182 ≠ gb184)); have n7_ := aM ((by rw [hg]; exact Nat.ne_of_gt (blk_lt (g := gb182) (aB BK182)) : gb184 ≠ gb182)); have n8_ := aM ((by rw [hg]; exact Nat.ne_of_lt (blk_lt (g := gb183) (aB BK183)) : gb183 ≠ gb184)); have n9_ := aM ((by rw [hg]; exact Nat.ne_of_gt (blk_lt (g := gb183) (aB BK183)) : gb184 ≠ gb183)); clear BK182 BK183 HB; have BK182 := n0_; have BK183 := n1_; have HB := n2_; have BK184 := n3_; have GW184 := n4_; have GE184 := n5_; have NB182_184 := n6_; have NB184_182 := n7_; have NB183_184 := n8_; have NB184_183 := n9_; clear n0_ n1_ n2_ n3_ n4_ n5_ n6_ n7_ n8_ n9_ hb hbox hg; have hnb8 := NB184_182.out; have hnc8 := NB182_184.out; have hnb9 := NB184_183.out; have hnc9 := NB183_184.out; have hcz10_0 := cz2_0 BK184; have hcz10_1 := cz2_1 BK184; have hfz10_0 := blk_frozen BK184.out 0; have hfz10_1 := blk_frozen BK184.out 1; have hcz11_0 := cz2_0 BK182; have hcz11_1 := cz2_1 BK182; have hfz11_0 := blk_frozen BK182.out 0; have hfz11_1 := blk_frozen BK182.out 1))
 go_loopg [7, 16] k (fun kq v7 v16 w' => ∃ (x7_1 : List (S26)) (x16_1 : Int) (x185001_1 : List (S26)) (u185001 : Value), v16 = .int .i64 x16_1 ∧ Aside0 (impl_DropOver.l0 kq a1 x7_1 l0_1 (l0_1.length : Int) x16_1 a0_0 x185001_1 = some (r1, r2, r3)) ∧ Aside0 (kq ≤ k) ∧ Aside0 (Kd.S k26 26 w' w.heap.size (fun k_ => some k_ ≠ (u185001 : Value).ownBlock) v7 x7_1) ∧ Aside0 (Kd.S k26 26 w' w.heap.size (fun k_ => some k_ ≠ (v7 : Value).ownBlock) u185001 x185001_1) ∧ Aside0 (w'.heap[gb182]? = some (.cells #[.int .i64 a0_0, (.slice A0_1 l0_1.length c0_1)] 39 (0, 0))) ∧ Aside0 (w'.heap[gb183]? = some (.cells #[.int .i64 0, (.slice none 0 0)] 39 (0, 0))) ∧ Aside0 (w'.heap[gb184]? = some (.cells #[.int .i64 a0_0, u185001] 39 (0, 0))) ∧ Aside0 (Below w.heap.size w w'))
 case atStart => exact ⟨(([] : List (S26))), (0), (([] : List (S26))), (.slice none 0 0), (by first | rfl | (simp; done) | (simp [*]; done)), H', ⟨Nat.le_refl _⟩, ⟨by first | exact Kd.S_nil _ _ _ _ _ | exact Kd.N_nil _ _ _ _ _ | exact Kd.V_nil _ _ _ _ _ | exact Kd.Q_nil _ _ _ _ _ | exact Kd.R_nil _ _ _ _ _⟩, ⟨by first | exact Kd.S_nil _ _ _ _ _ | exact Kd.N_nil _ _ _ _ _ | exact Kd.V_nil _ _ _ _ _ | exact Kd.Q_nil _ _ _ _ _ | exact Kd.R_nil _ _ _ _ _⟩, ⟨by (with_reducible repeat (first | refine aB1 ?_ _ | refine aB2 ?_ | refine aB3 ?_ _)); refine blk_far ?_ NB182_184.out _; (with_reducible repeat (first | refine aB1 ?_ _ | refine aB2 ?_ | refine aB3 ?_ _)); refine blk_far ?_ NB182_184.out _; (with_reducible repeat (first | refine aB1 ?_ _ | refine aB2 ?_ | refine aB3 ?_ _)); exact BK182.out⟩, ⟨by (with_reducible repeat (first | refine aB1 ?_ _ | refine aB2 ?_ | refine aB3 ?_ _)); refine blk_far ?_ NB183_184.out _; (with_reducible repeat (first | refine aB1 ?_ _ | refine aB2 ?_ | refine aB3 ?_ _)); refine blk_far ?_ NB183_184.out _; (with_reducible repeat (first | refine aB1 ?_ _ | refine aB2 ?_ | refine aB3 ?_ _)); exact BK183.out⟩, ⟨by (with_reducible repeat (first | refine aB1 ?_ _ | refine aB2 ?_ | refine aB3 ?_ _)); refine blk_put (cs := #[.int .i64 a0_0, .slice none 0 0]) ?_ 1 _ rfl; (with_reducible repeat (first | refine aB1 ?_ _ | refine aB2 ?_ | refine aB3 ?_ _)); refine blk_put (cs := #[.int .i64 0, .slice none 0 0]) ?_ 0 _ rfl; (with_reducible repeat (first | refine aB1 ?_ _ | refine aB2 ?_ | refine aB3 ?_ _)); exact BK184.out⟩, ⟨by repeat (first | (with_reducible first | exact HB.out | apply aW1 | apply aW2 | apply aW3 | refine below_set ?_ GE182.out | refine below_set ?_ GE183.out | refine below_set ?_ GE184.out) | exact HB.out)⟩⟩
 case round =>
  clear H'
  try clear c2
  try clear p2
  try clear c5
  try clear c8
  try clear c9
  try clear hcz10_0
  try clear hcz10_1
  try clear hcz11_0
  try clear hcz11_1
  try clear hcz6_0
  try clear hcz6_1
  try clear hfz10_0
  try clear hfz10_1
  try clear hfz11_0
  try clear hfz11_1
  try clear hfz6_0
  try clear hfz6_1
  obtain ⟨x7_1, x16_1, x185001_1, u185001, rfl, HA, HK1, HO_7, HO_185001, BK182, BK183, BK184, HB⟩ := hrel
  cases gk with
  | zero => exact absurd HA.out (by simp [impl_DropOver.l0])
  | succ k1 =>
   have H := HA.out
   clear HA
   simp only [impl_DropOver.l0] at H
   by_cases c12 : x16_1 < (l0_1.length : Int)
   ·rw [if_pos c12] at H; have c12b0 : decide (x16_1 < (l0_1.length : Int)) = true := decide_eq_true c12; clear c12
    by_cases c13 : 0 ≤ x16_1
    ·rw [if_pos c13] at H; have c13b0 : decide (0 ≤ x16_1) = true := decide_eq_true c13; clear c13
     by_cases c14 : x16_1 < (l0_1.length : Int)
     ·rw [if_pos c14] at H; have c14b0 : decide (x16_1 < (l0_1.length : Int)) = true := decide_eq_true c14; clear c14; replace H := Option.bind_eq_some_iff.mp H; obtain ⟨t187, A150, H⟩ := H; try dsimp only at H
      have A15 := aM A150
      clear A150
      by_cases c16 : t187 = true
      ·subst c16
       have H1 : ((impl_copyAlarm.f ((rd_T26 l0_1 x16_1).f0) ((rd_T26 l0_1 x16_1).f1) ((rd_T26 l0_1 x16_1).f2) ((rd_T26 l0_1 x16_1).f3)).bind fun bt188 => (if x7_1.length < 2513169434916 then (impl_DropOver.l0 k1 a1 (x7_1 ++ [(⟨bt188.1, bt188.2.1, bt188.2.2.1, bt188.2.2.2⟩ : S26)]) l0_1 (l0_1.length : Int) (wrap64 (x16_1 + 1)) a0_0 x185001_1) else (none))) = some (r1, r2, r3) := by rw [if_pos rfl] at H; exact H
       clear H
       have H := H1
       clear H1; replace H := Option.bind_eq_some_iff.mp H
       obtain ⟨⟨t188, t191, t192, t193⟩, A170, H⟩ := H
       try dsimp only at H
       have A17 := aM A170
       clear A170
       by_cases c18 : x7_1.length < 2513169434916
       ·rw [if_pos c18] at H
        have LMc18 := aM c18
        clear c18
        obtain ⟨y194, hy194⟩ : ∃ y_ : List (S26), y_ = (x7_1 ++ [(⟨t188, t191, t192, t193⟩ : S26)]) := ⟨_, rfl⟩
        replace H : (impl_DropOver.l0 k1 a1 y194 l0_1 (l0_1.length : Int) (wrap64 (x16_1 + 1)) a0_0 x185001_1) = some (r1, r2, r3) := by first | (rw [hy194]; with_reducible exact H) | (have H2_ := (Option.bind_some _ _).symm.trans H; rw [hy194]; with_reducible exact H2_) | (have H2_ := (Option.bind_some _ _).symm.trans H; with_reducible exact H2_) | with_reducible exact H | (rw [hy194]; exact H) | exact H
        have Ny194 := aM hy194
        clear hy194
        have H' := aM H
        clear H
        have p185 : 0 ≤ (x16_1 : Int) := of_decide_eq_true (by first | (with_reducible assumption) | assumption)
        have q185 : x16_1 < (l0_1.length : Int) := of_decide_eq_true (by first | (with_reducible assumption) | assumption)
        obtain ⟨ad185, A185_0, c185_0, e185, hx185_0, hx185_1, hx185_2, hx185_3, hl185_0, hi185_0⟩ := at_T26 HR0_1.out x16_1 p185 q185
        cases e185
        replace hx185_0 := (HB.out.cell (World.block_lt_of_cell? w _ hx185_0)).trans hx185_0
        replace hx185_1 := (HB.out.cell (World.block_lt_of_cell? w _ hx185_1)).trans hx185_1
        replace hx185_2 := (HB.out.cell (World.block_lt_of_cell? w _ hx185_2)).trans hx185_2
        replace hx185_3 := (HB.out.cell (World.block_lt_of_cell? w _ hx185_3)).trans hx185_3
        have HR185_0 := aM hi185_0
        have HC185_0 := aM hl185_0
        clear hi185_0 hl185_0
        replace p185 := eq_true p185
        replace q185 := eq_true q185
        go_wp2_with (first | ((with_reducible refine gate_dst (N := 9) rfl ?_); refine box_event ?hg (N := 9) ?hd (cs := #[.slice none 0 0, .int .i64 0, .int .i64 0, .string (⟨#[]⟩ : ByteArray)]) (t := 26) ?hr ?_; (case hd => rfl); (case hg => rfl); (case hr => first | (go_simp; done) | (go_simp; rfl)); intro gb186 hg w19 hbox hb; have n0_ := aM (Kd.S_below (Kd.S_elderB (by (with_reducible repeat (first | apply Kd.S_alloc | apply Kd.S_drewN | apply Kd.S_drew)); exact HO_7.out) gb186 (Nat.le_of_eq hg.symm)) hb); have n1_ := aM (Kd.S_below (Kd.S_elderB (by (with_reducible repeat (first | apply Kd.S_alloc | apply Kd.S_drewN | apply Kd.S_drew)); exact HO_185001.out) gb186 (Nat.le_of_eq hg.symm)) hb); have n2_ := bb BK182 hb; have n3_ := bb BK183 hb; have n4_ := bb BK184 hb; have n5_ := aM (below_step (by repeat (first | (with_reducible first | exact HB.out | apply aW1 | apply aW2 | apply aW3 | refine below_set ?_ GE182.out | refine below_set ?_ GE183.out | refine below_set ?_ GE184.out) | exact HB.out)) hb); have n6_ := aM (hbox); have n7_ := aM ((by rw [hg]; exact (below_size (by repeat (first | (with_reducible first | exact HB.out | apply aW1 | apply aW2 | apply aW3 | refine below_set ?_ GE182.out | refine below_set ?_ GE183.out | refine below_set ?_ GE184.out) | exact HB.out))) : w.heap.size ≤ gb186)); have n8_ := aM ((by rw [hg]; exact (below_size (by repeat (first | (with_reducible first | exact HB.out | apply aW1 | apply aW2 | apply aW3 | refine below_set ?_ GE182.out | refine below_set ?_ GE183.out | refine below_set ?_ GE184.out) | exact HB.out))) : w.heap.size ≤ gb186)); have n9_ := aM ((by rw [hg]; exact Nat.ne_of_lt (blk_lt (g := gb182) (aB BK182)) : gb182 ≠ gb186)); have n10_ := aM ((by rw [hg]; exact Nat.ne_of_gt (blk_lt (g := gb182) (aB BK182)) : gb186 ≠ gb182)); have n11_ := aM ((by rw [hg]; exact Nat.ne_of_lt (blk_lt (g := gb183) (aB BK183)) : gb183 ≠ gb186)); have n12_ := aM ((by rw [hg]; exact Nat.ne_of_gt (blk_lt (g := gb183) (aB BK183)) : gb186 ≠ gb183)); have n13_ := aM ((by rw [hg]; exact Nat.ne_of_lt (blk_lt (g := gb184) (aB BK184)) : gb184 ≠ gb186)); have n14_ := aM ((by rw [hg]; exact Nat.ne_of_gt (blk_lt (g := gb184) (aB BK184)) : gb186 ≠ gb184)); clear HO_7 HO_185001 BK182 BK183 BK184 HB; have HO_7 := n0_; have HO_185001 := n1_; have BK182 := n2_; have BK183 := n3_; have BK184 := n4_; have HB := n5_; have BK186 := n6_; have GW186 := n7_; have GE186 := n8_; have NB182_186 := n9_; have NB186_182 := n10_; have NB183_186 := n11_; have NB186_183 := n12_; have NB184_186 := n13_; have NB186_184 := n14_; clear n0_ n1_ n2_ n3_ n4_ n5_ n6_ n7_ n8_ n9_ n10_ n11_ n12_ n13_ n14_ hb hbox hg; have hnb20 := NB186_182.out; have hnc20 := NB182_186.out; have hnb21 := NB186_183.out; have hnc21 := NB183_186.out; have hnb22 := NB186_184.out; have hnc22 := NB184_186.out; have hcz23_0 := cz4_0 BK186; have hcz23_1 := cz4_1 BK186; have hcz23_2 := cz4_2 BK186; have hcz23_3 := cz4_3 BK186; have hfz23_0 := blk_frozen BK186.out 0; have hfz23_1 := blk_frozen BK186.out 1; have hfz23_2 := blk_frozen BK186.out 2; have hfz23_3 := blk_frozen BK186.out 3) | ((with_reducible refine gate_callee (f := 64) rfl ?_); refine goesL_ (some 22) rfl rfl Try.func64 (by kernel_rfl) rfl #[.agg #[.slice A185_0 ((rd_T26 l0_1 x16_1).f0).length c185_0, .int .i64 ((rd_T26 l0_1 x16_1).f1), .int .i64 ((rd_T26 l0_1 x16_1).f2), .string ((rd_T26 l0_1 x16_1).f3)], .int .i64 a1] rfl (by (try simp only [List.map_toArray, List.map_cons, List.map_nil]); first | done | rfl | (simp only [List.length_drop, List.length_take]; rfl)) ?_; (with_reducible refine (impl_Over.calls _ _ ((rd_T26 l0_1 x16_1).f0) ((rd_T26 l0_1 x16_1).f1) ((rd_T26 l0_1 x16_1).f2) ((rd_T26 l0_1 x16_1).f3) a1 true _ ?side1 ?side2 A15.out).mono ?_); (case side1 => exact Kd.C_below HR185_0.out (by repeat (first | (with_reducible first | exact HB.out | apply aW1 | apply aW2 | apply aW3 | refine below_set ?_ GE182.out | refine below_set ?_ GE183.out | refine below_set ?_ GE184.out | refine below_set ?_ GE186.out) | exact HB.out))); (case side2 => exact HC185_0.out); rintro e w24 ⟨rfl, hb⟩; refine ⟨_, rfl, ?_⟩; have n0_ := aM (Kd.S_below (by (with_reducible repeat (first | apply Kd.S_alloc | apply Kd.S_drewN | apply Kd.S_drew)); exact (Kd.S_mono (Kd.S_far (p := ⟨gb186, 3, none⟩) (Kd.S_far (p := ⟨gb186, 2, none⟩) (Kd.S_far (p := ⟨gb186, 1, none⟩) (Kd.S_far (p := ⟨gb186, 0, none⟩) (Kd.S_mono HO_7.out (fun k_ hk => (⟨hk, hk.2⟩ : _ ∧ k_ ≠ gb186))) (fun _ hk => hk.2) (.slice A185_0 ((rd_T26 l0_1 x16_1).f0).length c185_0)) (fun _ hk => hk.2) (.int .i64 ((rd_T26 l0_1 x16_1).f1))) (fun _ hk => hk.2) (.int .i64 ((rd_T26 l0_1 x16_1).f2))) (fun _ hk => hk.2) (.string ((rd_T26 l0_1 x16_1).f3))) (fun _ h_ => h_.1))) hb); have n1_ := aM (Kd.S_below (by (with_reducible repeat (first | apply Kd.S_alloc | apply Kd.S_drewN | apply Kd.S_drew)); exact (Kd.S_mono (Kd.S_far (p := ⟨gb186, 3, none⟩) (Kd.S_far (p := ⟨gb186, 2, none⟩) (Kd.S_far (p := ⟨gb186, 1, none⟩) (Kd.S_far (p := ⟨gb186, 0, none⟩) (Kd.S_mono HO_185001.out (fun k_ hk => (⟨hk, hk.2⟩ : _ ∧ k_ ≠ gb186))) (fun _ hk => hk.2) (.slice A185_0 ((rd_T26 l0_1 x16_1).f0).length c185_0)) (fun _ hk => hk.2) (.int .i64 ((rd_T26 l0_1 x16_1).f1))) (fun _ hk => hk.2) (.int .i64 ((rd_T26 l0_1 x16_1).f2))) (fun _ hk => hk.2) (.string ((rd_T26 l0_1 x16_1).f3))) (fun _ h_ => h_.1))) hb); have n2_ := aM (blk_below (g := gb182) (o := .cells #[.int .i64 a0_0, .slice (some ad185) l0_1.length c0_1] 39 (0, 0)) (by (with_reducible repeat (first | refine aB1 ?_ _ | refine aB2 ?_ | refine aB3 ?_ _)); refine blk_far ?_ NB182_186.out _; (with_reducible repeat (first | refine aB1 ?_ _ | refine aB2 ?_ | refine aB3 ?_ _)); refine blk_far ?_ NB182_186.out _; (with_reducible repeat (first | refine aB1 ?_ _ | refine aB2 ?_ | refine aB3 ?_ _)); refine blk_far ?_ NB182_186.out _; (with_reducible repeat (first | refine aB1 ?_ _ | refine aB2 ?_ | refine aB3 ?_ _)); refine blk_far ?_ NB182_186.out _; (with_reducible repeat (first | refine aB1 ?_ _ | refine aB2 ?_ | refine aB3 ?_ _)); exact BK182.out) hb); have n3_ := aM (blk_below (g := gb183) (o := .cells #[.int .i64 0, .slice none 0 0] 39 (0, 0)) (by (with_reducible repeat (first | refine aB1 ?_ _ | refine aB2 ?_ | refine aB3 ?_ _)); refine blk_far ?_ NB183_186.out _; (with_reducible repeat (first | refine aB1 ?_ _ | refine aB2 ?_ | refine aB3 ?_ _)); refine blk_far ?_ NB183_186.out _; (with_reducible repeat (first | refine aB1 ?_ _ | refine aB2 ?_ | refine aB3 ?_ _)); refine blk_far ?_ NB183_186.out _; (with_reducible repeat (first | refine aB1 ?_ _ | refine aB2 ?_ | refine aB3 ?_ _)); refine blk_far ?_ NB183_186.out _; (with_reducible repeat (first | refine aB1 ?_ _ | refine aB2 ?_ | refine aB3 ?_ _)); exact BK183.out) hb); have n4_ := aM (blk_below (g := gb184) (o := .cells #[.int .i64 a0_0, u185001] 39 (0, 0)) (by (with_reducible repeat (first | refine aB1 ?_ _ | refine aB2 ?_ | refine aB3 ?_ _)); refine blk_far ?_ NB184_186.out _; (with_reducible repeat (first | refine aB1 ?_ _ | refine aB2 ?_ | refine aB3 ?_ _)); refine blk_far ?_ NB184_186.out _; (with_reducible repeat (first | refine aB1 ?_ _ | refine aB2 ?_ | refine aB3 ?_ _)); refine blk_far ?_ NB184_186.out _; (with_reducible repeat (first | refine aB1 ?_ _ | refine aB2 ?_ | refine aB3 ?_ _)); refine blk_far ?_ NB184_186.out _; (with_reducible repeat (first | refine aB1 ?_ _ | refine aB2 ?_ | refine aB3 ?_ _)); exact BK184.out) hb); have n5_ := aM (blk_below (g := gb186) (o := .cells #[.slice A185_0 ((rd_T26 l0_1 x16_1).f0).length c185_0, .int .i64 ((rd_T26 l0_1 x16_1).f1), .int .i64 ((rd_T26 l0_1 x16_1).f2), .string ((rd_T26 l0_1 x16_1).f3)] 26 (0, 0)) (by (with_reducible repeat (first | refine aB1 ?_ _ | refine aB2 ?_ | refine aB3 ?_ _)); refine blk_put (cs := #[.slice A185_0 ((rd_T26 l0_1 x16_1).f0).length c185_0, .int .i64 ((rd_T26 l0_1 x16_1).f1), .int .i64 ((rd_T26 l0_1 x16_1).f2), .string (⟨#[]⟩ : ByteArray)]) ?_ 3 _ rfl; (with_reducible repeat (first | refine aB1 ?_ _ | refine aB2 ?_ | refine aB3 ?_ _)); refine blk_put (cs := #[.slice A185_0 ((rd_T26 l0_1 x16_1).f0).length c185_0, .int .i64 ((rd_T26 l0_1 x16_1).f1), .int .i64 0, .string (⟨#[]⟩ : ByteArray)]) ?_ 2 _ rfl; (with_reducible repeat (first | refine aB1 ?_ _ | refine aB2 ?_ | refine aB3 ?_ _)); refine blk_put (cs := #[.slice A185_0 ((rd_T26 l0_1 x16_1).f0).length c185_0, .int .i64 0, .int .i64 0, .string (⟨#[]⟩ : ByteArray)]) ?_ 1 _ rfl; (with_reducible repeat (first | refine aB1 ?_ _ | refine aB2 ?_ | refine aB3 ?_ _)); refine blk_put (cs := #[.slice none 0 0, .int .i64 0, .int .i64 0, .string (⟨#[]⟩ : ByteArray)]) ?_ 0 _ rfl; (with_reducible repeat (first | refine aB1 ?_ _ | refine aB2 ?_ | refine aB3 ?_ _)); exact BK186.out) hb); have n6_ := aM (below_step (by repeat (first | (with_reducible first | exact HB.out | apply aW1 | apply aW2 | apply aW3 | refine below_set ?_ GE182.out | refine below_set ?_ GE183.out | refine below_set ?_ GE184.out | refine below_set ?_ GE186.out) | exact HB.out)) hb); clear HO_7 HO_185001 BK182 BK183 BK184 BK186 HB; have HO_7 := n0_; have HO_185001 := n1_; have BK182 := n2_; have BK183 := n3_; have BK184 := n4_; have BK186 := n5_; have HB := n6_; clear n0_ n1_ n2_ n3_ n4_ n5_ n6_; (try clear hb); (try clear hb2); (try clear hk); (try clear hi); have hcz25_0 := cz4_0 BK186; have hcz25_1 := cz4_1 BK186; have hcz25_2 := cz4_2 BK186; have hcz25_3 := cz4_3 BK186; have hfz25_0 := blk_frozen BK186.out 0; have hfz25_1 := blk_frozen BK186.out 1; have hfz25_2 := blk_frozen BK186.out 2; have hfz25_3 := blk_frozen BK186.out 3) | ((with_reducible refine gate_callee (f := 57) rfl ?_); refine goesL_ (some 25) rfl rfl Try.func57 (by kernel_rfl) rfl #[.agg #[.slice A185_0 ((rd_T26 l0_1 x16_1).f0).length c185_0, .int .i64 ((rd_T26 l0_1 x16_1).f1), .int .i64 ((rd_T26 l0_1 x16_1).f2), .string ((rd_T26 l0_1 x16_1).f3)]] rfl (by (try simp only [List.map_toArray, List.map_cons, List.map_nil]); first | done | rfl | (simp only [List.length_drop, List.length_take]; rfl)) ?_; (with_reducible refine (impl_copyAlarm.calls _ _ ((rd_T26 l0_1 x16_1).f0) ((rd_T26 l0_1 x16_1).f1) ((rd_T26 l0_1 x16_1).f2) ((rd_T26 l0_1 x16_1).f3) t188 t191 t192 t193 _ ?side1 ?side2 A17.out).mono ?_); (case side1 => repeat (first | exact (Kd.C_below HR185_0.out HB.out) | (with_reducible refine Kd.C_alloc ?_ _) | (with_reducible refine Kd.C_drewN ?_ _) | (with_reducible refine Kd.C_drew ?_))); (case side2 => exact HC185_0.out); rintro e w26 ⟨v189, rfl, ho0, hb⟩; refine ⟨_, rfl, ?_⟩; have n0_ := aM (Kd.S_elder' (by (with_reducible repeat (first | apply Kd.S_alloc | apply Kd.S_drewN | apply Kd.S_drew)); exact HO_7.out) (Kd.R_base ho0) hb); have n1_ := aM (Kd.S_elder' (by (with_reducible repeat (first | apply Kd.S_alloc | apply Kd.S_drewN | apply Kd.S_drew)); exact HO_185001.out) (Kd.R_base ho0) hb); have n2_ := aM (Kd.R_lower ho0 (below_size (by repeat (first | (with_reducible first | exact HB.out | apply aW1 | apply aW2 | apply aW3 | refine below_set ?_ GE182.out | refine below_set ?_ GE183.out | refine below_set ?_ GE184.out | refine below_set ?_ GE186.out) | exact HB.out)))); have n3_ := bb BK182 hb; have n4_ := bb BK183 hb; have n5_ := bb BK184 hb; have n6_ := bb BK186 hb; have n7_ := aM (below_step (by repeat (first | (with_reducible first | exact HB.out | apply aW1 | apply aW2 | apply aW3 | refine below_set ?_ GE182.out | refine below_set ?_ GE183.out | refine below_set ?_ GE184.out | refine below_set ?_ GE186.out) | exact HB.out)) hb); clear HO_7 HO_185001 BK182 BK183 BK184 BK186 HB; have HO_7 := n0_; have HO_185001 := n1_; have HO190 := n2_; have BK182 := n3_; have BK183 := n4_; have BK184 := n5_; have BK186 := n6_; have HB := n7_; clear n0_ n1_ n2_ n3_ n4_ n5_ n6_ n7_; (try clear hb); (try clear hb2); (try clear hk); (try clear hi); (try clear ho0); obtain ⟨Ao28, co28, eo28⟩ := Kd.R_slice HO190.out; subst eo28) | ((with_reducible refine gate_builtin (b := .append) (xs := #[.tmp 23, .tmp 26]) rfl ?_); at_builtin; refine Kd.S_append k26 (w0 := w) w.heap.size rfl (.tmp 23) (.tmp 26) 37 26 (.agg #[(.slice none 0 0), (.int .i64 0), (.int .i64 0), (.string ⟨#[]⟩)]) 56 rfl Try.underlying37 info26 rfl (by decide) (by omega) u7 x7_1 (⟨t188, t191, t192, t193⟩ : S26) [.slice Ao28 t188.length co28, .int .i64 t191, .int .i64 t192, .string t193] (fun k_ => some k_ ≠ (u185001 : Value).ownBlock ∧ k_ ≠ gb186) (fun k_ => some k_ = (.slice Ao28 t188.length co28 : Value).ownBlock) rfl rfl ?aP (fun k_ hk_ => ((Kd.R_mono (ok' := fun k_ => ((fun k_ => some k_ ≠ (u185001 : Value).ownBlock ∧ k_ ≠ gb186)) k_ ∧ some k_ ≠ (u7 : Value).ownBlock) (Kd.R_types (Kd.R_apart' (Kd.R_apart' (HO190.out) (Kd.S_typed HO_185001.out) (by decide)) (Kd.S_typed HO_7.out) (by decide)) BK186.out (by decide)) (fun k_ hk => ⟨⟨hk.1.1.2, hk.2⟩, hk.1.2⟩))).1 k_ hk_.symm) ?aF ?aO ?aB ?aS ?aL ?_; (case aP => exact k26_mkM _ _ _ (⟨t188, t191, t192, t193⟩ : S26) (Kd.R_mono (Kd.R_tight rfl (Kd.R_mono (ok' := fun k_ => ((fun k_ => some k_ ≠ (u185001 : Value).ownBlock ∧ k_ ≠ gb186)) k_ ∧ some k_ ≠ (u7 : Value).ownBlock) (Kd.R_types (Kd.R_apart' (Kd.R_apart' (HO190.out) (Kd.S_typed HO_185001.out) (by decide)) (Kd.S_typed HO_7.out) (by decide)) BK186.out (by decide)) (fun k_ hk => ⟨⟨hk.1.1.2, hk.2⟩, hk.1.2⟩))) (fun _ h_ => h_))); (case aB => exact (by repeat (first | (with_reducible first | exact HB.out | apply aW1 | apply aW2 | apply aW3 | refine below_set ?_ GE182.out | refine below_set ?_ GE183.out | refine below_set ?_ GE184.out | refine below_set ?_ GE186.out) | exact HB.out))); (case aF => exact (fun k_ hk => ⟨Kd.fresh' (Kd.S_lt (by (with_reducible repeat (first | apply Kd.S_alloc | apply Kd.S_drewN | apply Kd.S_drew)); exact HO_185001.out)) k_ hk, Kd.freshB (g := gb186) (aB BK186) k_ hk⟩)); (case aO => exact (by (with_reducible repeat (first | apply Kd.S_alloc | apply Kd.S_drewN | apply Kd.S_drew)); exact Kd.S_mono HO_7.out (fun k_ hk => ⟨⟨hk.1.1, hk.1.2⟩, fun e_ => hk.2 e_⟩))); (case aS => exact (below_size (by repeat (first | (with_reducible first | exact HB.out | apply aW1 | apply aW2 | apply aW3 | refine below_set ?_ GE182.out | refine below_set ?_ GE183.out | refine below_set ?_ GE184.out | refine below_set ?_ GE186.out) | exact HB.out)))); (case aL => have := LMc18.out; omega); intro v195 w27 ho hb hg hat; rw [← Ny194.out] at ho; have n0_ := aM (Kd.S_after (ok := (fun k_ => some k_ ≠ (.slice Ao28 t188.length co28 : Value).ownBlock ∧ k_ ≠ gb186)) (by (with_reducible repeat (first | apply Kd.S_alloc | apply Kd.S_drewN | apply Kd.S_drew)); exact Kd.S_mono HO_185001.out (fun _ hk => ⟨⟨hk.2, hk.1.2⟩, hk.1.1⟩)) hg hat); have n1_ := aM (blk_grown (g := gb182) (aB BK182) hg (Kd.S_ne HO_7.out BK182.out (by decide))); have n2_ := aM (blk_grown (g := gb183) (aB BK183) hg (Kd.S_ne HO_7.out BK183.out (by decide))); have n3_ := aM (blk_grown (g := gb184) (aB BK184) hg (Kd.S_ne HO_7.out BK184.out (by decide))); have n4_ := aM (blk_grown (g := gb186) (aB BK186) hg (Kd.S_away HO_7.out (fun _ hk => hk.1.2))); have n5_ := aM (hb); have n6_ := aM (ho); clear HO_185001 BK182 BK183 BK184 BK186 HB HO_7 HO190; have HO_185001 := n0_; have BK182 := n1_; have BK183 := n2_; have BK184 := n3_; have BK186 := n4_; have HB := n5_; have HO196 := n6_; clear n0_ n1_ n2_ n3_ n4_ n5_ n6_ ho hb hg hat))
        go_roundg k1
        case measure => have := HK1.out; omega
        case rel => exact ⟨(y194), (wrap64 (x16_1 + 1)), (x185001_1), (u185001), (by first | rfl | (simp; done) | (simp [*]; done)), H', ⟨by have := HK1.out; omega⟩, ⟨by (with_reducible repeat (first | apply Kd.S_alloc | apply Kd.S_drewN | apply Kd.S_drew)); exact Kd.S_mono HO196.out (fun _ hk => hk.1)⟩, ⟨by (with_reducible repeat (first | apply Kd.S_alloc | apply Kd.S_drewN | apply Kd.S_drew)); exact Kd.S_mono HO_185001.out (fun _ hk => hk.2)⟩, ⟨by (with_reducible repeat (first | refine aB1 ?_ _ | refine aB2 ?_ | refine aB3 ?_ _)); exact BK182.out⟩, ⟨by (with_reducible repeat (first | refine aB1 ?_ _ | refine aB2 ?_ | refine aB3 ?_ _)); exact BK183.out⟩, ⟨by (with_reducible repeat (first | refine aB1 ?_ _ | refine aB2 ?_ | refine aB3 ?_ _)); exact BK184.out⟩, ⟨by repeat (first | (with_reducible first | exact HB.out | apply aW1 | apply aW2 | apply aW3 | refine below_set ?_ GE182.out | refine below_set ?_ GE183.out | refine below_set ?_ GE184.out | refine below_set ?_ GE186.out) | exact HB.out)⟩⟩
       ·rw [if_neg c18] at H
        exact absurd H (by simp)
      ·replace c16 := Bool.eq_false_iff.mpr c16
       subst c16
       have H1 : ((impl_copyAlarm.f ((rd_T26 l0_1 x16_1).f0) ((rd_T26 l0_1 x16_1).f1) ((rd_T26 l0_1 x16_1).f2) ((rd_T26 l0_1 x16_1).f3)).bind fun bt197 => (if x185001_1.length < 2513169434916 then (impl_DropOver.l0 k1 a1 x7_1 l0_1 (l0_1.length : Int) (wrap64 (x16_1 + 1)) a0_0 (x185001_1 ++ [(⟨bt197.1, bt197.2.1, bt197.2.2.1, bt197.2.2.2⟩ : S26)])) else (none))) = some (r1, r2, r3) := by rw [if_neg (show ¬ (false = true) by decide)] at H; exact H
       clear H
       have H := H1
       clear H1; replace H := Option.bind_eq_some_iff.mp H
       obtain ⟨⟨t197, t200, t201, t202⟩, A290, H⟩ := H
       try dsimp only at H
       have A29 := aM A290
       clear A290
       by_cases c30 : x185001_1.length < 2513169434916
       ·rw [if_pos c30] at H
        have LMc30 := aM c30
        clear c30
        obtain ⟨y203, hy203⟩ : ∃ y_ : List (S26), y_ = (x185001_1 ++ [(⟨t197, t200, t201, t202⟩ : S26)]) := ⟨_, rfl⟩
        replace H : (impl_DropOver.l0 k1 a1 x7_1 l0_1 (l0_1.length : Int) (wrap64 (x16_1 + 1)) a0_0 y203) = some (r1, r2, r3) := by first | (rw [hy203]; with_reducible exact H) | (have H2_ := (Option.bind_some _ _).symm.trans H; rw [hy203]; with_reducible exact H2_) | (have H2_ := (Option.bind_some _ _).symm.trans H; with_reducible exact H2_) | with_reducible exact H | (rw [hy203]; exact H) | exact H
        have Ny203 := aM hy203
        clear hy203
        have H' := aM H
        clear H
        have p185 : 0 ≤ (x16_1 : Int) := of_decide_eq_true (by first | (with_reducible assumption) | assumption)
        have q185 : x16_1 < (l0_1.length : Int) := of_decide_eq_true (by first | (with_reducible assumption) | assumption)
        obtain ⟨ad185, A185_0, c185_0, e185, hx185_0, hx185_1, hx185_2, hx185_3, hl185_0, hi185_0⟩ := at_T26 HR0_1.out x16_1 p185 q185
        cases e185
        replace hx185_0 := (HB.out.cell (World.block_lt_of_cell? w _ hx185_0)).trans hx185_0
        replace hx185_1 := (HB.out.cell (World.block_lt_of_cell? w _ hx185_1)).trans hx185_1
        replace hx185_2 := (HB.out.cell (World.block_lt_of_cell? w _ hx185_2)).trans hx185_2
        replace hx185_3 := (HB.out.cell (World.block_lt_of_cell? w _ hx185_3)).trans hx185_3
        have HR185_0 := aM hi185_0
        have HC185_0 := aM hl185_0
        clear hi185_0 hl185_0
        replace p185 := eq_true p185
        replace q185 := eq_true q185
        try go_wp2_with (first | ((with_reducible refine gate_dst (N := 9) rfl ?_); refine box_event ?hg (N := 9) ?hd (cs := #[.slice none 0 0, .int .i64 0, .int .i64 0, .string (⟨#[]⟩ : ByteArray)]) (t := 26) ?hr ?_; (case hd => rfl); (case hg => rfl); (case hr => first | (go_simp; done) | (go_simp; rfl)); intro gb186 hg w31 hbox hb; have n0_ := aM (Kd.S_below (Kd.S_elderB (by (with_reducible repeat (first | apply Kd.S_alloc | apply Kd.S_drewN | apply Kd.S_drew)); exact HO_7.out) gb186 (Nat.le_of_eq hg.symm)) hb); have n1_ := aM (Kd.S_below (Kd.S_elderB (by (with_reducible repeat (first | apply Kd.S_alloc | apply Kd.S_drewN | apply Kd.S_drew)); exact HO_185001.out) gb186 (Nat.le_of_eq hg.symm)) hb); have n2_ := bb BK182 hb; have n3_ := bb BK183 hb; have n4_ := bb BK184 hb; have n5_ := aM (below_step (by repeat (first | (with_reducible first | exact HB.out | apply aW1 | apply aW2 | apply aW3 | refine below_set ?_ GE182.out | refine below_set ?_ GE183.out | refine below_set ?_ GE184.out) | exact HB.out)) hb); have n6_ := aM (hbox); have n7_ := aM ((by rw [hg]; exact (below_size (by repeat (first | (with_reducible first | exact HB.out | apply aW1 | apply aW2 | apply aW3 | refine below_set ?_ GE182.out | refine below_set ?_ GE183.out | refine below_set ?_ GE184.out) | exact HB.out))) : w.heap.size ≤ gb186)); have n8_ := aM ((by rw [hg]; exact (below_size (by repeat (first | (with_reducible first | exact HB.out | apply aW1 | apply aW2 | apply aW3 | refine below_set ?_ GE182.out | refine below_set ?_ GE183.out | refine below_set ?_ GE184.out) | exact HB.out))) : w.heap.size ≤ gb186)); have n9_ := aM ((by rw [hg]; exact Nat.ne_of_lt (blk_lt (g := gb182) (aB BK182)) : gb182 ≠ gb186)); have n10_ := aM ((by rw [hg]; exact Nat.ne_of_gt (blk_lt (g := gb182) (aB BK182)) : gb186 ≠ gb182)); have n11_ := aM ((by rw [hg]; exact Nat.ne_of_lt (blk_lt (g := gb183) (aB BK183)) : gb183 ≠ gb186)); have n12_ := aM ((by rw [hg]; exact Nat.ne_of_gt (blk_lt (g := gb183) (aB BK183)) : gb186 ≠ gb183)); have n13_ := aM ((by rw [hg]; exact Nat.ne_of_lt (blk_lt (g := gb184) (aB BK184)) : gb184 ≠ gb186)); have n14_ := aM ((by rw [hg]; exact Nat.ne_of_gt (blk_lt (g := gb184) (aB BK184)) : gb186 ≠ gb184)); clear HO_7 HO_185001 BK182 BK183 BK184 HB; have HO_7 := n0_; have HO_185001 := n1_; have BK182 := n2_; have BK183 := n3_; have BK184 := n4_; have HB := n5_; have BK186 := n6_; have GW186 := n7_; have GE186 := n8_; have NB182_186 := n9_; have NB186_182 := n10_; have NB183_186 := n11_; have NB186_183 := n12_; have NB184_186 := n13_; have NB186_184 := n14_; clear n0_ n1_ n2_ n3_ n4_ n5_ n6_ n7_ n8_ n9_ n10_ n11_ n12_ n13_ n14_ hb hbox hg; have hnb32 := NB186_182.out; have hnc32 := NB182_186.out; have hnb33 := NB186_183.out; have hnc33 := NB183_186.out; have hnb34 := NB186_184.out; have hnc34 := NB184_186.out; have hcz35_0 := cz4_0 BK186; have hcz35_1 := cz4_1 BK186; have hcz35_2 := cz4_2 BK186; have hcz35_3 := cz4_3 BK186; have hfz35_0 := blk_frozen BK186.out 0; have hfz35_1 := blk_frozen BK186.out 1; have hfz35_2 := blk_frozen BK186.out 2; have hfz35_3 := blk_frozen BK186.out 3) | ((with_reducible refine gate_callee (f := 64) rfl ?_); refine goesL_ (some 22) rfl rfl Try.func64 (by kernel_rfl) rfl #[.agg #[.slice A185_0 ((rd_T26 l0_1 x16_1).f0).length c185_0, .int .i64 ((rd_T26 l0_1 x16_1).f1), .int .i64 ((rd_T26 l0_1 x16_1).f2), .string ((rd_T26 l0_1 x16_1).f3)], .int .i64 a1] rfl (by (try simp only [List.map_toArray, List.map_cons, List.map_nil]); first | done | rfl | (simp only [List.length_drop, List.length_take]; rfl)) ?_; (with_reducible refine (impl_Over.calls _ _ ((rd_T26 l0_1 x16_1).f0) ((rd_T26 l0_1 x16_1).f1) ((rd_T26 l0_1 x16_1).f2) ((rd_T26 l0_1 x16_1).f3) a1 false _ ?side1 ?side2 A15.out).mono ?_); (case side1 => exact Kd.C_below HR185_0.out (by repeat (first | (with_reducible first | exact HB.out | apply aW1 | apply aW2 | apply aW3 | refine below_set ?_ GE182.out | refine below_set ?_ GE183.out | refine below_set ?_ GE184.out | refine below_set ?_ GE186.out) | exact HB.out))); (case side2 => exact HC185_0.out); rintro e w36 ⟨rfl, hb⟩; refine ⟨_, rfl, ?_⟩; have n0_ := aM (Kd.S_below (by (with_reducible repeat (first | apply Kd.S_alloc | apply Kd.S_drewN | apply Kd.S_drew)); exact (Kd.S_mono (Kd.S_far (p := ⟨gb186, 3, none⟩) (Kd.S_far (p := ⟨gb186, 2, none⟩) (Kd.S_far (p := ⟨gb186, 1, none⟩) (Kd.S_far (p := ⟨gb186, 0, none⟩) (Kd.S_mono HO_7.out (fun k_ hk => (⟨hk, hk.2⟩ : _ ∧ k_ ≠ gb186))) (fun _ hk => hk.2) (.slice A185_0 ((rd_T26 l0_1 x16_1).f0).length c185_0)) (fun _ hk => hk.2) (.int .i64 ((rd_T26 l0_1 x16_1).f1))) (fun _ hk => hk.2) (.int .i64 ((rd_T26 l0_1 x16_1).f2))) (fun _ hk => hk.2) (.string ((rd_T26 l0_1 x16_1).f3))) (fun _ h_ => h_.1))) hb); have n1_ := aM (Kd.S_below (by (with_reducible repeat (first | apply Kd.S_alloc | apply Kd.S_drewN | apply Kd.S_drew)); exact (Kd.S_mono (Kd.S_far (p := ⟨gb186, 3, none⟩) (Kd.S_far (p := ⟨gb186, 2, none⟩) (Kd.S_far (p := ⟨gb186, 1, none⟩) (Kd.S_far (p := ⟨gb186, 0, none⟩) (Kd.S_mono HO_185001.out (fun k_ hk => (⟨hk, hk.2⟩ : _ ∧ k_ ≠ gb186))) (fun _ hk => hk.2) (.slice A185_0 ((rd_T26 l0_1 x16_1).f0).length c185_0)) (fun _ hk => hk.2) (.int .i64 ((rd_T26 l0_1 x16_1).f1))) (fun _ hk => hk.2) (.int .i64 ((rd_T26 l0_1 x16_1).f2))) (fun _ hk => hk.2) (.string ((rd_T26 l0_1 x16_1).f3))) (fun _ h_ => h_.1))) hb); have n2_ := aM (blk_below (g := gb182) (o := .cells #[.int .i64 a0_0, .slice (some ad185) l0_1.length c0_1] 39 (0, 0)) (by (with_reducible repeat (first | refine aB1 ?_ _ | refine aB2 ?_ | refine aB3 ?_ _)); refine blk_far ?_ NB182_186.out _; (with_reducible repeat (first | refine aB1 ?_ _ | refine aB2 ?_ | refine aB3 ?_ _)); refine blk_far ?_ NB182_186.out _; (with_reducible repeat (first | refine aB1 ?_ _ | refine aB2 ?_ | refine aB3 ?_ _)); refine blk_far ?_ NB182_186.out _; (with_reducible repeat (first | refine aB1 ?_ _ | refine aB2 ?_ | refine aB3 ?_ _)); refine blk_far ?_ NB182_186.out _; (with_reducible repeat (first | refine aB1 ?_ _ | refine aB2 ?_ | refine aB3 ?_ _)); exact BK182.out) hb); have n3_ := aM (blk_below (g := gb183) (o := .cells #[.int .i64 0, .slice none 0 0] 39 (0, 0)) (by (with_reducible repeat (first | refine aB1 ?_ _ | refine aB2 ?_ | refine aB3 ?_ _)); refine blk_far ?_ NB183_186.out _; (with_reducible repeat (first | refine aB1 ?_ _ | refine aB2 ?_ | refine aB3 ?_ _)); refine blk_far ?_ NB183_186.out _; (with_reducible repeat (first | refine aB1 ?_ _ | refine aB2 ?_ | refine aB3 ?_ _)); refine blk_far ?_ NB183_186.out _; (with_reducible repeat (first | refine aB1 ?_ _ | refine aB2 ?_ | refine aB3 ?_ _)); refine blk_far ?_ NB183_186.out _; (with_reducible repeat (first | refine aB1 ?_ _ | refine aB2 ?_ | refine aB3 ?_ _)); exact BK183.out) hb); have n4_ := aM (blk_below (g := gb184) (o := .cells #[.int .i64 a0_0, u185001] 39 (0, 0)) (by (with_reducible repeat (first | refine aB1 ?_ _ | refine aB2 ?_ | refine aB3 ?_ _)); refine blk_far ?_ NB184_186.out _; (with_reducible repeat (first | refine aB1 ?_ _ | refine aB2 ?_ | refine aB3 ?_ _)); refine blk_far ?_ NB184_186.out _; (with_reducible repeat (first | refine aB1 ?_ _ | refine aB2 ?_ | refine aB3 ?_ _)); refine blk_far ?_ NB184_186.out _; (with_reducible repeat (first | refine aB1 ?_ _ | refine aB2 ?_ | refine aB3 ?_ _)); refine blk_far ?_ NB184_186.out _; (with_reducible repeat (first | refine aB1 ?_ _ | refine aB2 ?_ | refine aB3 ?_ _)); exact BK184.out) hb); have n5_ := aM (blk_below (g := gb186) (o := .cells #[.slice A185_0 ((rd_T26 l0_1 x16_1).f0).length c185_0, .int .i64 ((rd_T26 l0_1 x16_1).f1), .int .i64 ((rd_T26 l0_1 x16_1).f2), .string ((rd_T26 l0_1 x16_1).f3)] 26 (0, 0)) (by (with_reducible repeat (first | refine aB1 ?_ _ | refine aB2 ?_ | refine aB3 ?_ _)); refine blk_put (cs := #[.slice A185_0 ((rd_T26 l0_1 x16_1).f0).length c185_0, .int .i64 ((rd_T26 l0_1 x16_1).f1), .int .i64 ((rd_T26 l0_1 x16_1).f2), .string (⟨#[]⟩ : ByteArray)]) ?_ 3 _ rfl; (with_reducible repeat (first | refine aB1 ?_ _ | refine aB2 ?_ | refine aB3 ?_ _)); refine blk_put (cs := #[.slice A185_0 ((rd_T26 l0_1 x16_1).f0).length c185_0, .int .i64 ((rd_T26 l0_1 x16_1).f1), .int .i64 0, .string (⟨#[]⟩ : ByteArray)]) ?_ 2 _ rfl; (with_reducible repeat (first | refine aB1 ?_ _ | refine aB2 ?_ | refine aB3 ?_ _)); refine blk_put (cs := #[.slice A185_0 ((rd_T26 l0_1 x16_1).f0).length c185_0, .int .i64 0, .int .i64 0, .string (⟨#[]⟩ : ByteArray)]) ?_ 1 _ rfl; (with_reducible repeat (first | refine aB1 ?_ _ | refine aB2 ?_ | refine aB3 ?_ _)); refine blk_put (cs := #[.slice none 0 0, .int .i64 0, .int .i64 0, .string (⟨#[]⟩ : ByteArray)]) ?_ 0 _ rfl; (with_reducible repeat (first | refine aB1 ?_ _ | refine aB2 ?_ | refine aB3 ?_ _)); exact BK186.out) hb); have n6_ := aM (below_step (by repeat (first | (with_reducible first | exact HB.out | apply aW1 | apply aW2 | apply aW3 | refine below_set ?_ GE182.out | refine below_set ?_ GE183.out | refine below_set ?_ GE184.out | refine below_set ?_ GE186.out) | exact HB.out)) hb); clear HO_7 HO_185001 BK182 BK183 BK184 BK186 HB; have HO_7 := n0_; have HO_185001 := n1_; have BK182 := n2_; have BK183 := n3_; have BK184 := n4_; have BK186 := n5_; have HB := n6_; clear n0_ n1_ n2_ n3_ n4_ n5_ n6_; (try clear hb); (try clear hb2); (try clear hk); (try clear hi)))
        have n0_ := aM (Kd.S_drew HO_7.out)
        have n1_ := aM (Kd.S_drew HO_185001.out)
        have n2_ := aM (blk_drew BK182.out)
        have n3_ := aM (blk_drew BK183.out)
        have n4_ := aM (blk_drew BK184.out)
        have n5_ := aM (blk_drew BK186.out)
        have n6_ := aM (below_drew1 HB.out)
        clear HO_7 HO_185001 BK182 BK183 BK184 BK186 HB; have HO_7 := n0_; have HO_185001 := n1_; have BK182 := n2_; have BK183 := n3_; have BK184 := n4_; have BK186 := n5_; have HB := n6_; clear n0_ n1_ n2_ n3_ n4_ n5_ n6_
        refine start_ (n := 8) (S := fun w' => w'.cell? ⟨gb184, 0, none⟩ = some (.int .i64 a0_0) ∧ w'.cell? ⟨gb184, 1, none⟩ = some (u185001) ∧ w'.cell? ⟨gb186, 0, none⟩ = some (.slice A185_0 ((rd_T26 l0_1 x16_1).f0).length c185_0) ∧ w'.cell? ⟨gb186, 1, none⟩ = some (.int .i64 ((rd_T26 l0_1 x16_1).f1)) ∧ w'.cell? ⟨gb186, 2, none⟩ = some (.int .i64 ((rd_T26 l0_1 x16_1).f2)) ∧ w'.cell? ⟨gb186, 3, none⟩ = some (.string ((rd_T26 l0_1 x16_1).f3))) (ds := [7]) (bz 8 0) (by kernel_rfl) rfl (by kernel_rfl) ⟨(blk_cell BK184.out 0).trans rfl, (blk_cell BK184.out 1).trans rfl, (blk_cell BK186.out 0).trans rfl, (blk_cell BK186.out 1).trans rfl, (blk_cell BK186.out 2).trans rfl, (blk_cell BK186.out 3).trans rfl⟩ (fun hHeld => ?_); refine with_tabW impl_DropOver.tab8 impl_DropOver.bits8 (fun HT_ HW_ => ?_)
        generalize w36.drew = w37 at HO_7 HO_185001 BK182 BK183 BK184 BK186 HB hHeld ⊢
        refine (pu 0 (some 28) 1 ?_ ?_ HT_ rfl rfl (by kernel_rfl) (fun _ _ _ h => h) ?_ ?_ ?_ (tk 1 (some 29) 3 ?_ ?_ HT_ HW_ rfl rfl (by kernel_rfl) (fun _ _ _ h => h) hHeld ?_ ?_ ?_ (tk 2 (some 30) 7 ?_ ?_ HT_ HW_ rfl rfl (by kernel_rfl) (fun _ _ _ h => h) hHeld ?_ ?_ ?_ ?_)))
        all_goals first | (rintro w' ⟨s0, s1, s2, s3, s4, s5⟩; go_simp; with_reducible rfl) | (intro w'; go_simp; with_reducible rfl) | (simp only [Act.put, List.setIfInBounds_toArray, List.set_cons_zero, List.set_cons_succ, i64_w, i32_w]; rfl) | rfl | skip
        refine one_ (i := 3) (N := some 31) (bz 8 15) rfl rfl (one_of HT_.out (by kernel_rfl)) (by decide) (fun K hK => ?_)
        refine goes_ Try.func57 (by kernel_rfl) rfl #[.agg #[.slice A185_0 ((rd_T26 l0_1 x16_1).f0).length c185_0, .int .i64 ((rd_T26 l0_1 x16_1).f1), .int .i64 ((rd_T26 l0_1 x16_1).f2), .string ((rd_T26 l0_1 x16_1).f3)]] (by rfl) rfl rfl (by (try simp only [List.map_toArray, List.map_cons, List.map_nil]); first | done | rfl | (simp only [List.length_drop, List.length_take]; rfl)) ?_
        with_reducible refine (impl_copyAlarm.calls _ _ ((rd_T26 l0_1 x16_1).f0) ((rd_T26 l0_1 x16_1).f1) ((rd_T26 l0_1 x16_1).f2) ((rd_T26 l0_1 x16_1).f3) t197 t200 t201 t202 _ ?side1 ?side2 A29.out).mono ?_
        (case side1 => repeat (first | exact (Kd.C_below HR185_0.out HB.out) | (with_reducible refine Kd.C_alloc ?_ _) | (with_reducible refine Kd.C_drewN ?_ _) | (with_reducible refine Kd.C_drew ?_)))
        (case side2 => exact HC185_0.out)
        rintro e w38 ⟨v198, rfl, ho0, hb⟩
        refine ⟨_, rfl, ?_⟩
        have n0_ := aM (Kd.S_elder' (by (with_reducible repeat (first | apply Kd.S_alloc | apply Kd.S_drewN | apply Kd.S_drew)); exact HO_7.out) (Kd.R_base ho0) hb)
        have n1_ := aM (Kd.S_elder' (by (with_reducible repeat (first | apply Kd.S_alloc | apply Kd.S_drewN | apply Kd.S_drew)); exact HO_185001.out) (Kd.R_base ho0) hb)
        have n2_ := aM (Kd.R_lower ho0 (below_size (by repeat (first | (with_reducible first | exact HB.out | apply aW1 | apply aW2 | apply aW3 | refine below_set ?_ GE182.out | refine below_set ?_ GE183.out | refine below_set ?_ GE184.out | refine below_set ?_ GE186.out) | exact HB.out))))
        have n3_ := bb BK182 hb; have n4_ := bb BK183 hb; have n5_ := bb BK184 hb; have n6_ := bb BK186 hb
        have n7_ := aM (below_step (by repeat (first | (with_reducible first | exact HB.out | apply aW1 | apply aW2 | apply aW3 | refine below_set ?_ GE182.out | refine below_set ?_ GE183.out | refine below_set ?_ GE184.out | refine below_set ?_ GE186.out) | exact HB.out)) hb)
        clear HO_7 HO_185001 BK182 BK183 BK184 BK186 HB; have HO_7 := n0_; have HO_185001 := n1_; have HO199 := n2_; have BK182 := n3_; have BK183 := n4_; have BK184 := n5_; have BK186 := n6_; have HB := n7_; clear n0_ n1_ n2_ n3_ n4_ n5_ n6_ n7_
        (try clear hb)
        (try clear hb2)
        (try clear hk)
        (try clear hi)
        (try clear ho0)
        obtain ⟨Ao40, co40, eo40⟩ := Kd.R_slice HO199.out
        (first | subst eo40 | (injection eo40 with f1_ f2_ f3_; have f4_ := f1_.symm; have f5_ := f3_.symm; clear f1_ f2_ f3_; subst f4_; subst f5_))
        refine hK.out _ _ ⟨(blk_cell BK184.out 0).trans rfl, (blk_cell BK184.out 1).trans rfl, (blk_cell BK186.out 0).trans rfl, (blk_cell BK186.out 1).trans rfl, (blk_cell BK186.out 2).trans rfl, (blk_cell BK186.out 3).trans rfl⟩ (fun hHeld => ?_)
        clear hK K
        refine norm_ (a' := ?_) ?_ ?_
        rotate_left
        ·show Act.put _ (some 31) _ = _
         simp only [Act.put, List.setIfInBounds_toArray, List.set_cons_zero, List.set_cons_succ, i64_w, i32_w]
         rfl
        refine one_ (i := 4) (N := some 32) (bz 8 31) rfl rfl (one_of HT_.out (by kernel_rfl)) (by decide) (fun K hK => ?_)
        refine value_ (w1 := ?_) (v := ?_) (by rfl) rfl ?_ ?_
        rotate_left 2
        ·go_simp
         constructor
         ·rfl
         ·rfl
        refine hK.out _ _ ⟨(blk_cell (blk_alloc BK184.out _) 0).trans rfl, (blk_cell (blk_alloc BK184.out _) 1).trans rfl, (blk_cell (blk_alloc BK186.out _) 0).trans rfl, (blk_cell (blk_alloc BK186.out _) 1).trans rfl, (blk_cell (blk_alloc BK186.out _) 2).trans rfl, (blk_cell (blk_alloc BK186.out _) 3).trans rfl⟩ (fun hHeld => ?_)
        clear hK K
        refine norm_ (a' := ?_) ?_ ?_
        rotate_left
        ·show Act.put _ (some 32) _ = _
         simp only [Act.put, List.setIfInBounds_toArray, List.set_cons_zero, List.set_cons_succ, i64_w, i32_w]
         rfl
        refine one_ (i := 5) (N := some 33) (bz 8 63) rfl rfl (one_of HT_.out (by kernel_rfl)) (by decide) (fun K hK => ?_)
        refine Kd.S_append_step k26 (w0 := w) w.heap.size (by rfl) (.tmp 29) (.tmp 32) 37 26 (.agg #[(.slice none 0 0), (.int .i64 0), (.int .i64 0), (.string ⟨#[]⟩)]) 56 rfl Try.underlying37 info26 rfl (by decide) (by omega) u185001 x185001_1 (⟨t197, t200, t201, t202⟩ : S26) [.slice Ao40 t197.length co40, .int .i64 t200, .int .i64 t201, .string t202] (fun k_ => some k_ ≠ (u7 : Value).ownBlock ∧ k_ ≠ gb186) (fun k_ => some k_ = (.slice Ao40 t197.length co40 : Value).ownBlock) rfl rfl ?aP (fun k_ hk_ => ((Kd.R_mono (ok' := fun k_ => ((fun k_ => some k_ ≠ (u7 : Value).ownBlock ∧ k_ ≠ gb186)) k_ ∧ some k_ ≠ (u185001 : Value).ownBlock) (Kd.R_types (Kd.R_apart' (Kd.R_apart' (HO199.out) (Kd.S_typed HO_7.out) (by decide)) (Kd.S_typed HO_185001.out) (by decide)) BK186.out (by decide)) (fun k_ hk => ⟨⟨hk.1.1.2, hk.2⟩, hk.1.2⟩))).1 k_ hk_.symm) ?aF ?aO ?aB ?aS ?aL ?_
        (case aP => exact k26_mkM _ _ _ (⟨t197, t200, t201, t202⟩ : S26) (Kd.R_mono (Kd.R_tight rfl (Kd.R_mono (ok' := fun k_ => ((fun k_ => some k_ ≠ (u7 : Value).ownBlock ∧ k_ ≠ gb186)) k_ ∧ some k_ ≠ (u185001 : Value).ownBlock) (Kd.R_types (Kd.R_apart' (Kd.R_apart' (HO199.out) (Kd.S_typed HO_7.out) (by decide)) (Kd.S_typed HO_185001.out) (by decide)) BK186.out (by decide)) (fun k_ hk => ⟨⟨hk.1.1.2, hk.2⟩, hk.1.2⟩))) (fun _ h_ => h_)))
        (case aB => exact (by repeat (first | (with_reducible first | exact HB.out | apply aW1 | apply aW2 | apply aW3 | refine below_set ?_ GE182.out | refine below_set ?_ GE183.out | refine below_set ?_ GE184.out | refine below_set ?_ GE186.out) | exact HB.out)))
        (case aF => exact (fun k_ hk => ⟨Kd.fresh' (Kd.S_lt (by (with_reducible repeat (first | apply Kd.S_alloc | apply Kd.S_drewN | apply Kd.S_drew)); exact HO_7.out)) k_ hk, Kd.freshB (g := gb186) (aB BK186) k_ hk⟩))
        (case aO => exact (by (with_reducible repeat (first | apply Kd.S_alloc | apply Kd.S_drewN | apply Kd.S_drew)); exact Kd.S_mono HO_185001.out (fun k_ hk => ⟨⟨hk.1.1, hk.1.2⟩, fun e_ => hk.2 e_⟩)))
        (case aS => exact (below_size (by repeat (first | (with_reducible first | exact HB.out | apply aW1 | apply aW2 | apply aW3 | refine below_set ?_ GE182.out | refine below_set ?_ GE183.out | refine below_set ?_ GE184.out | refine below_set ?_ GE186.out) | exact HB.out))))
        (case aL => have := LMc30.out; omega)
        intro v204 w39 ho hb hg hat
        rw [← Ny203.out] at ho
        have n0_ := aM (Kd.S_after (ok := (fun k_ => some k_ ≠ (.slice Ao40 t197.length co40 : Value).ownBlock ∧ k_ ≠ gb186)) (by (with_reducible repeat (first | apply Kd.S_alloc | apply Kd.S_drewN | apply Kd.S_drew)); exact Kd.S_mono HO_7.out (fun _ hk => ⟨⟨hk.2, hk.1.2⟩, hk.1.1⟩)) hg hat)
        have n1_ := aM (blk_grown (g := gb182) (aB BK182) hg (Kd.S_ne HO_185001.out BK182.out (by decide)))
        have n2_ := aM (blk_grown (g := gb183) (aB BK183) hg (Kd.S_ne HO_185001.out BK183.out (by decide)))
        have n3_ := aM (blk_grown (g := gb184) (aB BK184) hg (Kd.S_ne HO_185001.out BK184.out (by decide)))
        have n4_ := aM (blk_grown (g := gb186) (aB BK186) hg (Kd.S_away HO_185001.out (fun _ hk => hk.1.2)))
        have n5_ := aM (hb)
        have n6_ := aM (ho)
        clear HO_7 BK182 BK183 BK184 BK186 HB HO_185001 HO199; have HO_7 := n0_; have BK182 := n1_; have BK183 := n2_; have BK184 := n3_; have BK186 := n4_; have HB := n5_; have HO205 := n6_; clear n0_ n1_ n2_ n3_ n4_ n5_ n6_ ho hb hg hat
        obtain ⟨Ao41, co41, eo41⟩ := Kd.S_slice HO205.out
        (first | subst eo41 | (injection eo41 with f1_ f2_ f3_; have f4_ := f1_.symm; have f5_ := f3_.symm; clear f1_ f2_ f3_; subst f4_; subst f5_))
        refine hK.out _ _ ⟨(blk_cell BK184.out 0).trans rfl, (blk_cell BK184.out 1).trans rfl, (blk_cell BK186.out 0).trans rfl, (blk_cell BK186.out 1).trans rfl, (blk_cell BK186.out 2).trans rfl, (blk_cell BK186.out 3).trans rfl⟩ (fun hHeld => ?_)
        clear hK K
        refine norm_ (a' := ?_) ?_ ?_
        rotate_left
        ·show Act.put _ (some 33) _ = _
         simp only [Act.put, List.setIfInBounds_toArray, List.set_cons_zero, List.set_cons_succ, i64_w, i32_w]
         rfl
        refine (pu 6 (some 34) 127 ?_ ?_ HT_ rfl rfl (by kernel_rfl) (fun _ _ _ h => h) ?_ ?_ ?_ ?_)
        all_goals first | (intro w'; go_simp; with_reducible rfl) | (simp only [Act.put, List.setIfInBounds_toArray, List.set_cons_zero, List.set_cons_succ, i64_w, i32_w]; rfl) | rfl | skip
        refine last_ (i := 7) (N := none) (bz 8 255) rfl rfl (one_of HT_.out (by kernel_rfl)) (by decide) (fun K hK => ?_)
        have hs42 : w39.cell? ⟨gb184, 1, none⟩ = some (u185001) := (blk_cell BK184.out 1).trans rfl
        have hfs42 := blk_frozen BK184.out 1
        have hns42_0 := NB182_184.out
        have hns42_1 := NB183_184.out
        have hns42_3 := NB186_184.out
        have hms42_0 := NB184_182.out
        have hms42_1 := NB184_183.out
        have hms42_3 := NB184_186.out
        refine skip_ (w1 := ?_) (by rfl) rfl ?_ ?_
        rotate_left
        ·go_simp
         rfl
        refine hK.out _ _ ?_
        clear hK K
        refine done_ (done_of HT_.out (by kernel_rfl)) ?_
        try go_wp2
        go_roundg k1
        case measure => have := HK1.out; omega
        case rel => exact ⟨(x7_1), (wrap64 (x16_1 + 1)), (y203), (.slice Ao41 y203.length co41), (by first | rfl | (simp; done) | (simp [*]; done)), H', ⟨by have := HK1.out; omega⟩, ⟨by (with_reducible repeat (first | apply Kd.S_alloc | apply Kd.S_drewN | apply Kd.S_drew)); exact Kd.S_mono (Kd.S_far (p := ⟨gb184, 1, none⟩) (Kd.S_types HO_7.out BK184.out (by decide)) (fun _ hk => hk.2) (.slice Ao41 y203.length co41)) (fun _ hk => hk.1.2)⟩, ⟨by (with_reducible repeat (first | apply Kd.S_alloc | apply Kd.S_drewN | apply Kd.S_drew)); exact Kd.S_mono (Kd.S_far (p := ⟨gb184, 1, none⟩) (Kd.S_types HO205.out BK184.out (by decide)) (fun _ hk => hk.2) (.slice Ao41 y203.length co41)) (fun _ hk => hk.1.1)⟩, ⟨by (with_reducible repeat (first | refine aB1 ?_ _ | refine aB2 ?_ | refine aB3 ?_ _)); refine blk_far ?_ NB182_184.out _; (with_reducible repeat (first | refine aB1 ?_ _ | refine aB2 ?_ | refine aB3 ?_ _)); exact BK182.out⟩, ⟨by (with_reducible repeat (first | refine aB1 ?_ _ | refine aB2 ?_ | refine aB3 ?_ _)); refine blk_far ?_ NB183_184.out _; (with_reducible repeat (first | refine aB1 ?_ _ | refine aB2 ?_ | refine aB3 ?_ _)); exact BK183.out⟩, ⟨by (with_reducible repeat (first | refine aB1 ?_ _ | refine aB2 ?_ | refine aB3 ?_ _)); refine blk_put (cs := #[.int .i64 a0_0, u185001]) ?_ 1 _ rfl; (with_reducible repeat (first | refine aB1 ?_ _ | refine aB2 ?_ | refine aB3 ?_ _)); exact BK184.out⟩, ⟨by repeat (first | (with_reducible first | exact HB.out | apply aW1 | apply aW2 | apply aW3 | refine below_set ?_ GE182.out | refine below_set ?_ GE183.out | refine below_set ?_ GE184.out | refine below_set ?_ GE186.out) | exact HB.out)⟩⟩
       ·rw [if_neg c30] at H
        exact absurd H (by simp)
     ·rw [if_neg c14] at H
      exact absurd H (by simp)
    ·rw [if_neg c13] at H
     exact absurd H (by simp)
   ·rw [if_neg c12] at H; have c12b0 : decide (x16_1 < (l0_1.length : Int)) = false := decide_eq_false c12; clear c12
    simp only [Option.some.injEq, Prod.mk.injEq] at H
    obtain ⟨rfl, rfl, rfl⟩ := H
    have hnb43 := NB184_182.out; have hnc43 := NB182_184.out; have hnb44 := NB184_183.out; have hnc44 := NB183_184.out; have hcz45_0 := cz2_0 BK184; have hcz45_1 := cz2_1 BK184; have hfz45_0 := blk_frozen BK184.out 0; have hfz45_1 := blk_frozen BK184.out 1; have hnb46 := NB183_182.out; have hnc46 := NB182_183.out; have hcz47_0 := cz2_0 BK183; have hcz47_1 := cz2_1 BK183; have hfz47_0 := blk_frozen BK183.out 0; have hfz47_1 := blk_frozen BK183.out 1
    obtain ⟨Ao48, co48, eo48⟩ := Kd.S_slice HO_185001.out
    subst eo48
    go_wp2
    refine bodyPost_ret (results_ct rfl _ _ gb183 39 #[.int .i64 a0_0, .slice Ao48 x185001_1.length co48] (0, 0) _ rfl (by (with_reducible repeat (first | refine aB1 ?_ _ | refine aB2 ?_ | refine aB3 ?_ _)); refine blk_put (cs := #[.int .i64 a0_0, .slice none 0 0]) ?_ 1 _ rfl; (with_reducible repeat (first | refine aB1 ?_ _ | refine aB2 ?_ | refine aB3 ?_ _)); refine blk_put (cs := #[.int .i64 0, .slice none 0 0]) ?_ 0 _ rfl; (with_reducible repeat (first | refine aB1 ?_ _ | refine aB2 ?_ | refine aB3 ?_ _)); exact BK183.out) Try.underlying39 rfl (by kernel_rfl)) rfl ?_
    exact ⟨_, _, by first | rfl | (simp [errW_none, errW_some] <;> rfl) | (simp [*, errW_none, errW_some] <;> rfl), by (with_reducible repeat (first | apply Kd.S_alloc | apply Kd.S_drewN | apply Kd.S_drew)); exact Kd.S_mono (Kd.S_far (p := ⟨gb183, 1, none⟩) (Kd.S_far (p := ⟨gb183, 0, none⟩) (Kd.S_types HO_185001.out BK183.out (by decide)) (fun _ hk => hk.2) (.int .i64 a0_0)) (fun _ hk => hk.2) (.slice Ao48 x185001_1.length co48)) (fun _ hk => hk.1), by (with_reducible repeat (first | apply Kd.S_alloc | apply Kd.S_drewN | apply Kd.S_drew)); exact Kd.S_mono (Kd.S_far (p := ⟨gb183, 1, none⟩) (Kd.S_far (p := ⟨gb183, 0, none⟩) (Kd.S_types HO_7.out BK183.out (by decide)) (fun _ hk => hk.2) (.int .i64 a0_0)) (fun _ hk => hk.2) (.slice Ao48 x185001_1.length co48)) (fun _ hk => hk.1), by repeat (first | (with_reducible first | exact HB.out | apply aW1 | apply aW2 | apply aW3 | refine below_set ?_ GE182.out | refine below_set ?_ GE183.out | refine below_set ?_ GE184.out) | exact HB.out)⟩

/-! ### laws_eqLabel: function 92 -/
def laws_eqLabel.f (a0_0 : ByteArray) (a0_1 : ByteArray) (a1_0 : ByteArray) (a1_1 : ByteArray) : Option (Bool) := if a0_0.toList = a1_0.toList then (if a0_1.toList = a1_1.toList then (some true) else (some false)) else (some false)
set_option maxHeartbeats 8000000 in
set_option maxRecDepth 100000 in
theorem laws_eqLabel.calls (a0_0 : ByteArray) (a0_1 : ByteArray) (a1_0 : ByteArray) (a1_1 : ByteArray) (r : Bool) (w : World) (h : laws_eqLabel.f a0_0 a0_1 a1_0 a1_1 = some r) :
  Calls Try.prog 92 #[.agg #[.string a0_0, .string a0_1], .agg #[.string a1_0, .string a1_1]] w fun e w' => e = .returned (.bool r) ∧ Below w.heap.size w w' := by
 have hu89 := Try.underlying89
 have HB := aM (Below.refl w.heap.size w)
 have H : (if a0_0.toList = a1_0.toList then (if a0_1.toList = a1_1.toList then (some true) else (some false)) else (some false)) = some r := h
 clear h
 by_cases c3 : a0_0.toList = a1_0.toList
 ·rw [if_pos c3] at H
  have c3b0 : (a0_0.toList == a1_0.toList) = true := beq_iff_eq.mpr c3
  have c3b1 : (a0_0.toList != a1_0.toList) = false := bne_eq_false_iff_eq.mpr c3
  clear c3
  by_cases c4 : a0_1.toList = a1_1.toList
  ·rw [if_pos c4] at H
   have c4b0 : (a0_1.toList == a1_1.toList) = true := beq_iff_eq.mpr c4
   have c4b1 : (a0_1.toList != a1_1.toList) = false := bne_eq_false_iff_eq.mpr c4
   clear c4
   obtain rfl := Option.some.inj H
   go_enter Try.func92, Try.ntmps92
   go_wp2_with (first | ((with_reducible refine gate_dst (N := 2) rfl ?_); refine box_event ?hg (N := 2) ?hd (cs := #[.string a0_0, .string a0_1]) (t := 89) ?hr ?_; (case hd => rfl); (case hg => rfl); (case hr => first | (go_simp; done) | (go_simp; rfl)); intro gb206 hg w5 hbox hb; have n0_ := aM (below_step (by repeat (first | (with_reducible first | exact HB.out | apply aW1 | apply aW2 | apply aW3) | exact HB.out)) hb); have n1_ := aM (hbox); have n2_ := aM ((by rw [hg]; exact (below_size (by repeat (first | (with_reducible first | exact HB.out | apply aW1 | apply aW2 | apply aW3) | exact HB.out))) : w.heap.size ≤ gb206)); have n3_ := aM ((by rw [hg]; exact (below_size (by repeat (first | (with_reducible first | exact HB.out | apply aW1 | apply aW2 | apply aW3) | exact HB.out))) : w.heap.size ≤ gb206)); clear HB; have HB := n0_; have BK206 := n1_; have GW206 := n2_; have GE206 := n3_; clear n0_ n1_ n2_ n3_ hb hbox hg) | ((with_reducible refine gate_dst (N := 3) rfl ?_); refine box_event ?hg (N := 3) ?hd (cs := #[.string a1_0, .string a1_1]) (t := 89) ?hr ?_; (case hd => rfl); (case hg => rfl); (case hr => first | (go_simp; done) | (go_simp; rfl)); intro gb207 hg w6 hbox hb; have n0_ := bb BK206 hb; have n1_ := aM (below_step (by repeat (first | (with_reducible first | exact HB.out | apply aW1 | apply aW2 | apply aW3 | refine below_set ?_ GE206.out) | exact HB.out)) hb); have n2_ := aM (hbox); have n3_ := aM ((by rw [hg]; exact (below_size (by repeat (first | (with_reducible first | exact HB.out | apply aW1 | apply aW2 | apply aW3 | refine below_set ?_ GE206.out) | exact HB.out))) : w.heap.size ≤ gb207)); have n4_ := aM ((by rw [hg]; exact (below_size (by repeat (first | (with_reducible first | exact HB.out | apply aW1 | apply aW2 | apply aW3 | refine below_set ?_ GE206.out) | exact HB.out))) : w.heap.size ≤ gb207)); have n5_ := aM ((by rw [hg]; exact Nat.ne_of_lt (blk_lt (g := gb206) (aB BK206)) : gb206 ≠ gb207)); have n6_ := aM ((by rw [hg]; exact Nat.ne_of_gt (blk_lt (g := gb206) (aB BK206)) : gb207 ≠ gb206)); clear BK206 HB; have BK206 := n0_; have HB := n1_; have BK207 := n2_; have GW207 := n3_; have GE207 := n4_; have NB206_207 := n5_; have NB207_206 := n6_; clear n0_ n1_ n2_ n3_ n4_ n5_ n6_ hb hbox hg; have hnb7 := NB206_207.out; have hnc7 := NB207_206.out; have hcz8_0 := cz2_0 BK206; have hcz8_1 := cz2_1 BK206; have hfz8_0 := blk_frozen BK206.out 0; have hfz8_1 := blk_frozen BK206.out 1; have hcz9_0 := cz2_0 BK207; have hcz9_1 := cz2_1 BK207; have hfz9_0 := blk_frozen BK207.out 0; have hfz9_1 := blk_frozen BK207.out 1))
   go_ret
   exact ⟨by first | rfl | (simp [errW_none, errW_some] <;> rfl) | (simp [*, errW_none, errW_some] <;> rfl), by repeat (first | (with_reducible first | exact HB.out | apply aW1 | apply aW2 | apply aW3 | refine below_set ?_ GE206.out | refine below_set ?_ GE207.out) | exact HB.out)⟩
  ·rw [if_neg c4] at H
   have c4b0 : (a0_1.toList == a1_1.toList) = false := beq_eq_false_iff_ne.mpr c4
   have c4b1 : (a0_1.toList != a1_1.toList) = true := bne_iff_ne.mpr c4
   obtain rfl := Option.some.inj H
   go_enter Try.func92, Try.ntmps92
   go_wp2_with (first | ((with_reducible refine gate_dst (N := 2) rfl ?_); refine box_event ?hg (N := 2) ?hd (cs := #[.string a0_0, .string a0_1]) (t := 89) ?hr ?_; (case hd => rfl); (case hg => rfl); (case hr => first | (go_simp; done) | (go_simp; rfl)); intro gb206 hg w10 hbox hb; have n0_ := aM (below_step (by repeat (first | (with_reducible first | exact HB.out | apply aW1 | apply aW2 | apply aW3) | exact HB.out)) hb); have n1_ := aM (hbox); have n2_ := aM ((by rw [hg]; exact (below_size (by repeat (first | (with_reducible first | exact HB.out | apply aW1 | apply aW2 | apply aW3) | exact HB.out))) : w.heap.size ≤ gb206)); have n3_ := aM ((by rw [hg]; exact (below_size (by repeat (first | (with_reducible first | exact HB.out | apply aW1 | apply aW2 | apply aW3) | exact HB.out))) : w.heap.size ≤ gb206)); clear HB; have HB := n0_; have BK206 := n1_; have GW206 := n2_; have GE206 := n3_; clear n0_ n1_ n2_ n3_ hb hbox hg) | ((with_reducible refine gate_dst (N := 3) rfl ?_); refine box_event ?hg (N := 3) ?hd (cs := #[.string a1_0, .string a1_1]) (t := 89) ?hr ?_; (case hd => rfl); (case hg => rfl); (case hr => first | (go_simp; done) | (go_simp; rfl)); intro gb207 hg w11 hbox hb; have n0_ := bb BK206 hb; have n1_ := aM (below_step (by repeat (first | (with_reducible first | exact HB.out | apply aW1 | apply aW2 | apply aW3 | refine below_set ?_ GE206.out) | exact HB.out)) hb); have n2_ := aM (hbox); have n3_ := aM ((by rw [hg]; exact (below_size (by repeat (first | (with_reducible first | exact HB.out | apply aW1 | apply aW2 | apply aW3 | refine below_set ?_ GE206.out) | exact HB.out))) : w.heap.size ≤ gb207)); have n4_ := aM ((by rw [hg]; exact (below_size (by repeat (first | (with_reducible first | exact HB.out | apply aW1 | apply aW2 | apply aW3 | refine below_set ?_ GE206.out) | exact HB.out))) : w.heap.size ≤ gb207)); have n5_ := aM ((by rw [hg]; exact Nat.ne_of_lt (blk_lt (g := gb206) (aB BK206)) : gb206 ≠ gb207)); have n6_ := aM ((by rw [hg]; exact Nat.ne_of_gt (blk_lt (g := gb206) (aB BK206)) : gb207 ≠ gb206)); clear BK206 HB; have BK206 := n0_; have HB := n1_; have BK207 := n2_; have GW207 := n3_; have GE207 := n4_; have NB206_207 := n5_; have NB207_206 := n6_; clear n0_ n1_ n2_ n3_ n4_ n5_ n6_ hb hbox hg; have hnb12 := NB206_207.out; have hnc12 := NB207_206.out; have hcz13_0 := cz2_0 BK206; have hcz13_1 := cz2_1 BK206; have hfz13_0 := blk_frozen BK206.out 0; have hfz13_1 := blk_frozen BK206.out 1; have hcz14_0 := cz2_0 BK207; have hcz14_1 := cz2_1 BK207; have hfz14_0 := blk_frozen BK207.out 0; have hfz14_1 := blk_frozen BK207.out 1))
   go_ret
   exact ⟨by first | rfl | (simp [errW_none, errW_some] <;> rfl) | (simp [*, errW_none, errW_some] <;> rfl), by repeat (first | (with_reducible first | exact HB.out | apply aW1 | apply aW2 | apply aW3 | refine below_set ?_ GE206.out | refine below_set ?_ GE207.out) | exact HB.out)⟩
 ·rw [if_neg c3] at H
  have c3b0 : (a0_0.toList == a1_0.toList) = false := beq_eq_false_iff_ne.mpr c3
  have c3b1 : (a0_0.toList != a1_0.toList) = true := bne_iff_ne.mpr c3
  obtain rfl := Option.some.inj H
  go_enter Try.func92, Try.ntmps92
  go_wp2_with (first | ((with_reducible refine gate_dst (N := 2) rfl ?_); refine box_event ?hg (N := 2) ?hd (cs := #[.string a0_0, .string a0_1]) (t := 89) ?hr ?_; (case hd => rfl); (case hg => rfl); (case hr => first | (go_simp; done) | (go_simp; rfl)); intro gb206 hg w15 hbox hb; have n0_ := aM (below_step (by repeat (first | (with_reducible first | exact HB.out | apply aW1 | apply aW2 | apply aW3) | exact HB.out)) hb); have n1_ := aM (hbox); have n2_ := aM ((by rw [hg]; exact (below_size (by repeat (first | (with_reducible first | exact HB.out | apply aW1 | apply aW2 | apply aW3) | exact HB.out))) : w.heap.size ≤ gb206)); have n3_ := aM ((by rw [hg]; exact (below_size (by repeat (first | (with_reducible first | exact HB.out | apply aW1 | apply aW2 | apply aW3) | exact HB.out))) : w.heap.size ≤ gb206)); clear HB; have HB := n0_; have BK206 := n1_; have GW206 := n2_; have GE206 := n3_; clear n0_ n1_ n2_ n3_ hb hbox hg) | ((with_reducible refine gate_dst (N := 3) rfl ?_); refine box_event ?hg (N := 3) ?hd (cs := #[.string a1_0, .string a1_1]) (t := 89) ?hr ?_; (case hd => rfl); (case hg => rfl); (case hr => first | (go_simp; done) | (go_simp; rfl)); intro gb207 hg w16 hbox hb; have n0_ := bb BK206 hb; have n1_ := aM (below_step (by repeat (first | (with_reducible first | exact HB.out | apply aW1 | apply aW2 | apply aW3 | refine below_set ?_ GE206.out) | exact HB.out)) hb); have n2_ := aM (hbox); have n3_ := aM ((by rw [hg]; exact (below_size (by repeat (first | (with_reducible first | exact HB.out | apply aW1 | apply aW2 | apply aW3 | refine below_set ?_ GE206.out) | exact HB.out))) : w.heap.size ≤ gb207)); have n4_ := aM ((by rw [hg]; exact (below_size (by repeat (first | (with_reducible first | exact HB.out | apply aW1 | apply aW2 | apply aW3 | refine below_set ?_ GE206.out) | exact HB.out))) : w.heap.size ≤ gb207)); have n5_ := aM ((by rw [hg]; exact Nat.ne_of_lt (blk_lt (g := gb206) (aB BK206)) : gb206 ≠ gb207)); have n6_ := aM ((by rw [hg]; exact Nat.ne_of_gt (blk_lt (g := gb206) (aB BK206)) : gb207 ≠ gb206)); clear BK206 HB; have BK206 := n0_; have HB := n1_; have BK207 := n2_; have GW207 := n3_; have GE207 := n4_; have NB206_207 := n5_; have NB207_206 := n6_; clear n0_ n1_ n2_ n3_ n4_ n5_ n6_ hb hbox hg; have hnb17 := NB206_207.out; have hnc17 := NB207_206.out; have hcz18_0 := cz2_0 BK206; have hcz18_1 := cz2_1 BK206; have hfz18_0 := blk_frozen BK206.out 0; have hfz18_1 := blk_frozen BK206.out 1; have hcz19_0 := cz2_0 BK207; have hcz19_1 := cz2_1 BK207; have hfz19_0 := blk_frozen BK207.out 0; have hfz19_1 := blk_frozen BK207.out 1))
  go_ret
  exact ⟨by first | rfl | (simp [errW_none, errW_some] <;> rfl) | (simp [*, errW_none, errW_some] <;> rfl), by repeat (first | (with_reducible first | exact HB.out | apply aW1 | apply aW2 | apply aW3 | refine below_set ?_ GE206.out | refine below_set ?_ GE207.out) | exact HB.out)⟩

end Go.Proofs.Ytgindocfjoalhaa.PFnExactDropOver
