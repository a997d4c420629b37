/- What the Go functions that FnSets reaches compute, as Lean functions, and that the machine's calls do so; no conditions. -/
import Derived.Test.YtgindocfjoalhabPFnSetsx0
import Derived.Test.YtgindocfjoalhabPFnSetsx4
import Derived.Test.YtgindocfjoalhabPFnSetsx5
namespace Go.Proofs.Ytgindocfjoalhab.PFnSets
open Go.RowKit Go.Proofs.YtgindocfjoalhabW.PrintWords Go.Proofs.YtgindocfjoalhabW.PrintLast Go.Proofs.YtgindocfjoalhabW.PrintMore
attribute [local go_sem] max2_int min2_int max_two min_two max_three min_three max_four min_four   -- for this text's walks alone
set_option linter.unusedVariables false
set_option linter.unusedSimpArgs false

/-! ### spec_SortSet: function 63 (by hand) -/
def spec_SortSet.pos (x : S86) (out : List (S86)) : Nat → Nat
  | 0 => 0
  | j + 1 => if Op.bytesLess x.f0.toList (rd_T86 out (j : Int)).f0.toList = true then spec_SortSet.pos x out j else j + 1
def spec_SortSet.ins (x : S86) (out : List (S86)) : List (S86) := out.take (spec_SortSet.pos x out out.length) ++ [x] ++ out.drop (spec_SortSet.pos x out out.length)
def spec_SortSet.go : List (S86) → List (S86) → List (S86)
  | [], out => out
  | x :: r, out => spec_SortSet.go r (spec_SortSet.ins x out)
def spec_SortSet.f (k : Nat) (l0 : List (S86)) : Option (List (S86) × Bool) :=
  (spec_SetOk.f k (spec_SortSet.go (l0.take 5) [])).bind fun t => if t = true then some (spec_SortSet.go (l0.take 5) [], true) else some ([], false)
theorem spec_SortSet.mono : ∀ a0 k, LeO (spec_SortSet.f k a0) (spec_SortSet.f (k + 1) a0) := by
  intro a0 k
  unfold spec_SortSet.f
  exact LeO.bind (spec_SetOk.mono _ _) (fun _ => LeO.refl _)
theorem spec_SortSet.pos_le (x : S86) (out : List (S86)) : ∀ j, spec_SortSet.pos x out j ≤ j
  | 0 => Nat.le_refl _
  | j + 1 => by
    unfold spec_SortSet.pos
    split
    · exact Nat.le_trans (spec_SortSet.pos_le x out j) (Nat.le_succ j)
    · exact Nat.le_refl _
theorem spec_SortSet.ins_len (x : S86) (out : List (S86)) : (spec_SortSet.ins x out).length = out.length + 1 := by
  have := spec_SortSet.pos_le x out out.length
  simp [spec_SortSet.ins]
  omega
theorem drop5 {α : Type} (z : α) (l : List α) (i : Nat) (h : i < l.length) (h5 : i ≤ 4) : (l.take 5).drop i = l.getD i z :: (l.take 5).drop (i + 1) := by
  rw [List.drop_eq_getElem_cons (show i < (l.take 5).length by rw [List.length_take]; omega), List.getElem_take, List.getD_eq_getElem?_getD, List.getElem?_eq_getElem h]; rfl
theorem drop5_nil {α : Type} (l : List α) (i : Nat) (h : l.length ≤ i ∨ 4 < i) : (l.take 5).drop i = [] := List.drop_eq_nil_of_le (by rw [List.length_take]; omega)
def spec_SortSet.T6 : Bool × List (List Nat × List Nat) := (true, [([], []), ([0], [0]), ([1], [1]), ([2], [2]), ([2], [2]), ([3, 4, 2], [2, 3, 4]), ([5, 2], [2, 5]), ([6, 2], [2, 6]), ([2], [2]), ([2], [2]), ([9, 2], [2, 9]), ([8, 10, 2], [2, 8, 10]), ([11, 2], [2, 11]), ([12, 2], [2, 12]), ([7, 13, 2, 2], [2, 7, 13]), ([2, 14], [2, 14])])
def spec_SortSet.B6 : List Nat := [0, 1, 3, 7, 7, 31, 63, 127, 7, 7, 519, 1799, 3847, 7943, 16383, 32767]
theorem spec_SortSet.tab6 : rtab .any (opsOf Try.f63 6) = spec_SortSet.T6 := by kernel_rfl
theorem spec_SortSet.bits6 : waitsOk spec_SortSet.T6.2 spec_SortSet.B6 = true := by kernel_rfl
def spec_SortSet.T8 : Bool × List (List Nat × List Nat) := (true, [([], []), ([], []), ([], []), ([1, 2], [1, 2]), ([0, 3], [0, 3]), ([], []), ([], []), ([5, 6], [5, 6]), ([7], [7]), ([8], [8]), ([4, 9, 4], [4, 9]), ([], []), ([], []), ([11, 12], [11, 12]), ([10, 13, 10], [10, 13]), ([14, 14, 0, 1, 2, 3, 4, 5, 6, 7, 8, 9, 10, 11, 12, 13, 14], [1, 11, 14])])
def spec_SortSet.B8 : List Nat := [0, 0, 0, 6, 15, 0, 0, 96, 224, 480, 1023, 0, 0, 6144, 16383, 32767]
theorem spec_SortSet.tab8 : rtab .any (opsOf Try.f63 8) = spec_SortSet.T8 := by kernel_rfl
theorem spec_SortSet.bits8 : waitsOk spec_SortSet.T8.2 spec_SortSet.B8 = true := by kernel_rfl
set_option maxHeartbeats 8000000 in
set_option maxRecDepth 100000 in
theorem spec_SortSet.calls (k : Nat) (A0 : Option Addr) (c0 : Nat) (l0 : List (S86)) (r1 : List (S86)) (r2 : Bool) (w : World) (hr0 : Kd.C k86 w A0 l0.length l0) (hc0 : l0.length ≤ c0) (h : spec_SortSet.f k l0 = some (r1, r2)) :
    Calls Try.prog 63 #[.slice A0 l0.length c0] w fun e w' => ∃ v0_ : Value, e = .returned (.tuple #[v0_, .bool r2]) ∧ Kd.R k86 86 w' w.heap.size (fun _ => True) v0_ r1 ∧ Below w.heap.size w w' := by
  have hu86 := Try.underlying86
  have HR := aM hr0
  have HC := aM hc0
  have hmx : l0.length ≤ 9223372036854775807 := hr0.2.1
  unfold spec_SortSet.f at h
  have HX := aM h
  clear hr0 hc0 h
  have HB := aM (Below.refl w.heap.size w)
  have HG := aM (show spec_SortSet.go ((l0.take 5).drop 0) [] = spec_SortSet.go (l0.take 5) [] from rfl)
  go_enter Try.func63, Try.ntmps63
  go_wp2_with ((with_reducible refine gate_dst (N := 7) rfl ?_); refine Kd.R_lit k86 _ 86 ?hg (N := 7) ?hd (xs := ([] : List (S86))) (inner := []) (ok := fun _ => True) (okp := fun _ => True) ?hr ?hp (fun _ hk => hk) trivial (Below.refl _ _) (Nat.le_refl _) (by simp) ?_; (case hd => rfl); (case hg => rfl); (case hr => first | (go_simp; done) | (go_simp; rfl)); (case hp => exact (Reps.none _ _)); intro v7 w7 ho7 hb7 hg_ hnew_; clear hg_ hnew_; have HO := aM ho7; have HB := aM hb7; clear ho7 hb7; obtain ⟨Ao, co, eo⟩ := Kd.R_slice HO.out; subst eo)
  go_loopg [4, 5] 5 (fun kx v4 v5 w' => ∃ (i : Nat) (out : List (S86)) (Ao : Option Addr) (co : Nat), v4 = .slice Ao i co ∧ v5 = .int .i64 (i : Int) ∧ i ≤ l0.length ∧ i ≤ 5 ∧ 5 - i ≤ kx ∧ Aside0 (out.length = i) ∧ Aside0 (spec_SortSet.go ((l0.take 5).drop i) out = spec_SortSet.go (l0.take 5) []) ∧ Aside0 (Kd.R k86 86 w' w.heap.size (fun _ => True) (.slice Ao i co) out) ∧ Aside0 (Below w.heap.size w w'))
  case atStart => exact ⟨0, [], Ao, co, rfl, rfl, Nat.zero_le _, by omega, by omega, ⟨rfl⟩, HG, HO, HB⟩
  case round =>
    clear HG HO HB
    obtain ⟨i, out, Ao, co, rfl, rfl, hil, hi5, hkx, HOL, HG, HO, HB⟩ := hrel
    by_cases hlt : i < l0.length
    · have hltb : decide ((i : Int) < (l0.length : Int)) = true := decide_eq_true (by omega)
      by_cases h4 : i ≤ 4
      · have h4b : decide ((i : Int) ≤ 4) = true := decide_eq_true (by omega)
        have H := HG.out
        rw [drop5 z86 l0 i hlt h4] at H
        simp only [spec_SortSet.go] at H
        have HG1 := aM H
        clear H HG
        obtain ⟨x, hx⟩ : ∃ x, x = rd_T86 l0 (i : Int) := ⟨_, rfl⟩
        have hg : l0.getD i z86 = x := hx.symm
        have HG2 := HG1.out
        rw [hg] at HG2
        have HG := aM HG2
        clear HG1 HG2 hg
        obtain ⟨ad, ea, hx0, hx1⟩ := at_T86 HR.out (i : Int) (by omega) (by omega)
        subst ea
        simp only [Int.toNat_natCast] at hx0 hx1
        rw [← hx] at hx0 hx1
        have HX0 := aM hx0
        have HX1 := aM hx1
        have HXD := aM hx
        have p0t : (0 ≤ (i : Int)) = True := eq_true (by omega)
        have q0t : ((i : Int) < (l0.length : Int)) = True := eq_true (by omega)
        have q1t : (i < l0.length) = True := eq_true hlt
        clear hx0 hx1 hx
        go_wp2
        go_loopg [6] i (fun kx v6 w' => ∃ (j : Nat), v6 = .int .i64 (j : Int) ∧ j ≤ i ∧ j ≤ kx ∧ Aside0 (spec_SortSet.pos x out j = spec_SortSet.pos x out i) ∧ Aside0 (Kd.R k86 86 w' w.heap.size (fun _ => True) (.slice Ao i co) out) ∧ Aside0 (Below w.heap.size w w'))
        case atStart => exact ⟨i, rfl, Nat.le_refl _, Nat.le_refl _, ⟨rfl⟩, HO, HB⟩
        case round =>
          clear HO HB
          obtain ⟨j, rfl, hjn, hjk, HP, HO, HB⟩ := hrel
          cases j with
          | zero =>
            go_wp2
            refine start_ (n := 16) (S := fun _ => True) (ds := []) (bz 16 0) (by kernel_rfl) rfl (by kernel_rfl) trivial (fun hHeld => ?_); refine with_tabW spec_SortSet.tab6 spec_SortSet.bits6 (fun HT_ HW_ => ?_)
            refine (pu 0 (some 20) 1 ?_ ?_ HT_ rfl rfl (by kernel_rfl) (fun _ _ _ h => h) ?_ ?_ ?_ (pu 1 (some 21) 3 ?_ ?_ HT_ rfl rfl (by kernel_rfl) (fun _ _ _ h => h) ?_ ?_ ?_ (pu 2 (some 22) 7 ?_ ?_ HT_ rfl rfl (by kernel_rfl) (fun _ _ _ h => h) ?_ ?_ ?_ (po 3 (some 23) 15 ?_ HT_ rfl rfl (by kernel_rfl) (fun _ _ _ h => h) ?_ ?_ (po 4 (some 24) 31 ?_ HT_ rfl rfl (by kernel_rfl) (fun _ _ _ h => h) ?_ ?_ (po 5 (some 25) 63 ?_ HT_ rfl rfl (by kernel_rfl) (fun _ _ _ h => h) ?_ ?_ (po 6 (some 26) 127 ?_ HT_ rfl rfl (by kernel_rfl) (fun _ _ _ h => h) ?_ ?_ (po 7 (some 27) 255 ?_ HT_ rfl rfl (by kernel_rfl) (fun _ _ _ h => h) ?_ ?_ (po 8 (some 28) 511 ?_ HT_ rfl rfl (by kernel_rfl) (fun _ _ _ h => h) ?_ ?_ (po 9 (some 29) 1023 ?_ HT_ rfl rfl (by kernel_rfl) (fun _ _ _ h => h) ?_ ?_ (po 10 (some 30) 2047 ?_ HT_ rfl rfl (by kernel_rfl) (fun _ _ _ h => h) ?_ ?_ (po 11 (some 31) 4095 ?_ HT_ rfl rfl (by kernel_rfl) (fun _ _ _ h => h) ?_ ?_ (po 12 (some 32) 8191 ?_ HT_ rfl rfl (by kernel_rfl) (fun _ _ _ h => h) ?_ ?_ (po 13 (some 33) 16383 ?_ HT_ rfl rfl (by kernel_rfl) (fun _ _ _ h => h) ?_ ?_ (po 14 (some 34) 32767 ?_ HT_ rfl rfl (by kernel_rfl) (fun _ _ _ h => h) ?_ ?_ (pu 15 (some 35) 65535 ?_ ?_ HT_ rfl rfl (by kernel_rfl) (fun _ _ _ h => h) ?_ ?_ ?_ ?_))))))))))))))))
            all_goals first | (rintro w' ⟨s0, s1⟩; go_simp; with_reducible rfl) | (intro w'; go_simp; with_reducible rfl) | (simp only [Act.put, List.setIfInBounds_toArray, List.set_cons_zero, List.set_cons_succ, i64_w, i32_w]; rfl) | rfl | skip
            refine done_ (done_of HT_.out (by kernel_rfl)) ?_
            have HO1 := aM (Kd.R_drew HO.out)
            have HB1 := aM (below_drew1 HB.out)
            clear HO HB
            have HO := HO1
            have HB := HB1
            clear HO1 HB1
            generalize wr.drew = wr at HO HB ⊢
            have HM := aM (show (0 : Nat) = 0 from rfl)
            have HPP := aM (show spec_SortSet.pos x out out.length = 0 from by rw [HOL.out, ← HP.out]; rfl)
            go_wp2
            have hx0 := pw_cell_below HB.out HX0.out
            have hx1 := pw_cell_below HB.out HX1.out
            have hm_ := HM.out
            have hroom : i ≤ co := (Kd.R_reads' HO.out).2.1
            have hCo := (Kd.R_reads' HO.out).2.2
            obtain ⟨i0_, hi0_, _, hsz_, _⟩ := info_parts info86
            have hcut1 := cut_to (P := Try.prog) 24 86 .i64 Try.underlying24 hi0_ Ao i co 0 (by omega) (by omega) hroom
            have hcut2 := cut_from (P := Try.prog) 24 86 .i64 Try.underlying24 hi0_ 2 hsz_ Ao i co 0 (by omega) (by omega)
            rw [show (0 : Int).toNat = 0 by omega] at hcut1 hcut2
            have hT1 := Kd.C_take (m := 0) hCo (by have := HOL.out; omega)
            have hT2 := Kd.C_drop (m := 0) (c := co) hCo (by have := HOL.out; omega) (by have := HOL.out; omega)
            rw [show (out.take (0)).length = 0 by have := HOL.out; rw [List.length_take]; omega] at hT1
            rw [show (out.drop (0)).length = i - (0) by have := HOL.out; rw [List.length_drop]; omega] at hT2
            have hsz2 : k86.sz = 2 := rfl
            rw [hsz2] at hT2
            generalize (if co = 0 then Ao else (Ao).map (·.add ((0) * 2))) = A2 at hcut2 hT2
            generalize hn2 : i - (0) = n2 at hcut2 hT2
            generalize co - (0) = c2 at hcut2
            have HT1 := aM (Kd.C_drew hT1)
            have HT2 := aM (Kd.C_drew hT2)
            have HBd := aM (below_drew1 HB.out)
            clear hCo hT1 hT2 hroom hi0_ hsz_ hm_
            have HP8 := aM (show 0 ≤ i ∧ n2 ≤ i from by omega)
            have HN2 := aM hn2
            clear hn2
            refine start_ (n := 16) (S := fun w' => w'.cell? (ad.add (i * 2)) = some (.string x.f0) ∧ w'.cell? ⟨(ad.add (i * 2)).block, (ad.add (i * 2)).off + 1, none⟩ = some (.string x.f1)) (ds := []) (bz 16 0) (by kernel_rfl) rfl (by kernel_rfl) ⟨hx0, hx1⟩ (fun hHeld => ?_); refine with_tabW spec_SortSet.tab8 spec_SortSet.bits8 (fun HT_ HW_ => ?_)
            clear HO HB
            have hBq := HBd
            clear HBd
            have HBd := hBq
            clear hBq
            generalize wr.drew = w8 at HT1 HT2 HBd hHeld ⊢
            have HB8 := aM (Below.refl w8.heap.size w8)
            refine (pu 1 (some 39) 2 ?_ ?_ HT_ rfl rfl (by kernel_rfl) (fun _ _ _ h => h) ?_ ?_ ?_ (pu 2 (some 40) 6 ?_ ?_ HT_ rfl rfl (by kernel_rfl) (fun _ _ _ h => h) ?_ ?_ ?_ (pu 3 (some 41) 14 ?_ ?_ HT_ rfl rfl (by kernel_rfl) (fun _ _ _ h => h) ?_ ?_ ?_ (pu 5 (some 43) 46 ?_ ?_ HT_ rfl rfl (by kernel_rfl) (fun _ _ _ h => h) ?_ ?_ ?_ (pu 6 (some 44) 110 ?_ ?_ HT_ rfl rfl (by kernel_rfl) (fun _ _ _ h => h) ?_ ?_ ?_ (pu 7 (some 45) 238 ?_ ?_ HT_ rfl rfl (by kernel_rfl) (fun _ _ _ h => h) ?_ ?_ ?_ (tk 8 (some 46) 494 ?_ ?_ HT_ HW_ rfl rfl (by kernel_rfl) (fun _ _ _ h => h) hHeld ?_ ?_ ?_ (pu 11 (some 49) 2542 ?_ ?_ HT_ rfl rfl (by kernel_rfl) (fun _ _ _ h => h) ?_ ?_ ?_ (pu 12 (some 50) 6638 ?_ ?_ HT_ rfl rfl (by kernel_rfl) (fun _ _ _ h => h) ?_ ?_ ?_ (pu 13 (some 51) 14830 ?_ ?_ HT_ rfl rfl (by kernel_rfl) (fun _ _ _ h => h) ?_ ?_ ?_ ?_))))))))))
            all_goals first | (rintro w' ⟨s0, s1⟩; go_simp; with_reducible rfl) | (intro w'; go_simp; with_reducible rfl) | (simp only [Act.put, List.setIfInBounds_toArray, List.set_cons_zero, List.set_cons_succ, i64_w, i32_w]; rfl) | rfl | skip
            have HS8 := aM hHeld
            refine join_ (σ := Value × Value × Value) 3 (bz 16 15359) (fun s_ => [(38, s_.1), (42, s_.2.1), (47, s_.2.2)]) (fun s_ w' => (w'.cell? (ad.add (i * 2)) = some (.string x.f0) ∧ w'.cell? ⟨(ad.add (i * 2)).block, (ad.add (i * 2)).off + 1, none⟩ = some (.string x.f1)) ∧ Kd.R k86 86 w' w8.heap.size (fun _ => True) s_.2.1 (out.take (0)) ∧ Kd.R k86 86 w' w8.heap.size (fun _ => True) s_.2.2 [x] ∧ Below w8.heap.size w8 w') ?_ ?_
            rotate_left
            · intro hCont
              refine two_ (i := 0) (j := 9) (Ni := some 38) (Nj := some 47) (bz 16 14831) (bz 16 15342) rfl rfl rfl rfl (two_of HT_.out (by kernel_rfl)) (by decide) (by decide) (fun K hK => ?_) (fun K hK => ?_)
              · skip
                refine Kd.R_lit_step k86 _ 86 ?hg (N := 38) ?hd (xs := ([] : List (S86))) (inner := []) (ok := fun _ => True) (okp := fun _ => True) ?hr ?hp (fun _ hk => hk) trivial (Below.refl _ _) (Nat.le_refl _) (by simp) ?_; (case hd => rfl); (case hg => rfl); (case hr => first | (go_simp; done) | (go_simp; rfl)); (case hp => exact (Reps.none _ _))
                intro v38 w9 ho hb hg_ hn_; clear hg_
                obtain ⟨b38, hv38, hb38⟩ := hn_
                have H38 := aM (Kd.R_lower ho HB8.out.size)
                have hbS := aM hb
                have q_ := aM (below_step HB8.out hb)
                clear HB8
                have HB8 := q_
                clear q_ ho hbS hb
                refine hK.out _ _ ⟨pw_cell_below HB8.out HS8.out.1, pw_cell_below HB8.out HS8.out.2⟩ (fun hHeld => ?_)
                clear hK K
                refine norm_ (a' := ?_) ?_ ?_
                rotate_left
                · show Act.put _ (some 38) _ = _
                  simp only [Act.put, List.setIfInBounds_toArray, List.set_cons_zero, List.set_cons_succ, i64_w, i32_w]
                  rfl
                refine two_ (i := 4) (j := 9) (Ni := some 42) (Nj := some 47) (bz 16 14847) (bz 16 15343) rfl rfl rfl rfl (two_of HT_.out (by kernel_rfl)) (by decide) (by decide) (fun K hK => ?_) (fun K hK => ?_)
                · skip
                  refine Kd.R_append_rows_step k86 (w0 := w8) (Rr := k86.K w9) w8.heap.size ?hw (.tmp 38) (.tmp 41) 24 86 (.agg #[(.string ⟨#[]⟩), (.string ⟨#[]⟩)]) 32 rfl Try.underlying24 info86 rfl (by decide) (by omega) v38 [] (out.take (0)) Ao _ co (fun _ => True) (fun _ => False) rfl rfl ?aO ?aR (fun x_ cs_ hK_ => by rw [k86_open hK_]; exact k86_mkM _ _ _ x_) (fun _ h => h.elim) (fun _ _ => trivial) HB8.out ?aS ?aL ?_
                  (case hw => rfl); (case aO => exact H38.out); (case aR => exact Kd.C_below HT1.out HB8.out); (case aS => exact HB8.out.size); (case aL => (try have := HOL.out); (try have := HP8.out); simp only [List.length_append, List.length_take, List.length_drop, List.length_singleton, List.length_nil, List.length_cons]; omega)
                  intro v42 w10 ho hb hg hat_
                  rw [List.nil_append] at ho
                  have H42 := aM ho
                  clear HB8 H38
                  have HB8 := aM hb
                  clear ho hb hg hat_
                  refine hK.out _ _ ⟨pw_cell_below HB8.out HS8.out.1, pw_cell_below HB8.out HS8.out.2⟩ (fun hHeld => ?_)
                  clear hK K
                  refine norm_ (a' := ?_) ?_ ?_
                  rotate_left
                  · show Act.put _ (some 42) _ = _
                    simp only [Act.put, List.setIfInBounds_toArray, List.set_cons_zero, List.set_cons_succ, i64_w, i32_w]
                    rfl
                  refine one_ (i := 9) (N := some 47) (bz 16 15359) rfl rfl (one_of HT_.out (by kernel_rfl)) (by decide) (fun K hK => ?_)
                  refine Kd.R_lit_step k86 _ 86 ?hg (N := 47) ?hd (xs := ([x] : List (S86))) (inner := [.string x.f0, .string x.f1]) (ok := fun _ => True) (okp := fun _ => True) ?hr ?hp (fun _ hk => hk) trivial (Below.refl _ _) (Nat.le_refl _) (by simp) ?_; (case hd => rfl); (case hg => rfl); (case hr => first | (go_simp; done) | (go_simp; rfl)); (case hp => exact (Reps.c2 (k86_mkM _ _ _ x) (Reps.none _ _)))
                  intro v47 w11 ho hb hg_ hn_; clear hg_
                  obtain ⟨b47, hv47, hb47⟩ := hn_
                  have H47 := aM (Kd.R_lower ho HB8.out.size)
                  have hbS := aM hb
                  have q_ := aM (below_step HB8.out hb)
                  clear HB8
                  have HB8 := q_
                  clear q_ ho
                  have q_ := aM (Kd.R_below H42.out hbS.out)
                  clear H42
                  have H42 := q_
                  clear q_
                  refine hK.out _ _ ⟨pw_cell_below HB8.out HS8.out.1, pw_cell_below HB8.out HS8.out.2⟩ (fun hHeld => ?_)
                  clear hK K
                  refine norm_ (a' := ?_) ?_ ?_
                  rotate_left
                  · show Act.put _ (some 47) _ = _
                    simp only [Act.put, List.setIfInBounds_toArray, List.set_cons_zero, List.set_cons_succ, i64_w, i32_w]
                    rfl
                  exact norm_ (by simp only [putAll, Act.put, List.setIfInBounds_toArray, List.set_cons_zero, List.set_cons_succ]) (hCont (v38, v42, v47) _ ⟨⟨pw_cell_below HB8.out HS8.out.1, pw_cell_below HB8.out HS8.out.2⟩, H42.out, H47.out, HB8.out⟩)
                · skip
                  have hlt38 := Kd.R_lt H38.out b38 hv38
                  refine Kd.R_lit_step k86 _ 86 ?hg (N := 47) ?hd (xs := ([x] : List (S86))) (inner := [.string x.f0, .string x.f1]) (ok := fun _ => True) (okp := fun _ => True) ?hr ?hp (fun _ hk => hk) trivial (Below.refl _ _) (Nat.le_refl _) (by simp) ?_; (case hd => rfl); (case hg => rfl); (case hr => first | (go_simp; done) | (go_simp; rfl)); (case hp => exact (Reps.c2 (k86_mkM _ _ _ x) (Reps.none _ _)))
                  intro v47 w10 ho hb hg_ hn_; clear hg_
                  obtain ⟨b47, hv47, hb47⟩ := hn_
                  have H47 := aM (Kd.R_lower ho HB8.out.size)
                  have hbS := aM hb
                  have q_ := aM (below_step HB8.out hb)
                  clear HB8
                  have HB8 := q_
                  clear q_ ho
                  have q_ := aM (Kd.R_below H38.out hbS.out)
                  clear H38
                  have H38 := q_
                  clear q_ hb hbS
                  refine hK.out _ _ ⟨pw_cell_below HB8.out HS8.out.1, pw_cell_below HB8.out HS8.out.2⟩ (fun hHeld => ?_)
                  clear hK K
                  refine norm_ (a' := ?_) ?_ ?_
                  rotate_left
                  · show Act.put _ (some 47) _ = _
                    simp only [Act.put, List.setIfInBounds_toArray, List.set_cons_zero, List.set_cons_succ, i64_w, i32_w]
                    rfl
                  refine one_ (i := 4) (N := some 42) (bz 16 15359) rfl rfl (one_of HT_.out (by kernel_rfl)) (by decide) (fun K hK => ?_)
                  refine Kd.R_append_rows_step k86 (w0 := w8) (Rr := k86.K w10) w8.heap.size ?hw (.tmp 38) (.tmp 41) 24 86 (.agg #[(.string ⟨#[]⟩), (.string ⟨#[]⟩)]) 32 rfl Try.underlying24 info86 rfl (by decide) (by omega) v38 [] (out.take (0)) Ao _ co (fun _ => True) (fun _ => False) rfl rfl ?aO ?aR (fun x_ cs_ hK_ => by rw [k86_open hK_]; exact k86_mkM _ _ _ x_) (fun _ h => h.elim) (fun _ _ => trivial) HB8.out ?aS ?aL ?_
                  (case hw => rfl); (case aO => exact H38.out); (case aR => exact Kd.C_below HT1.out HB8.out); (case aS => exact HB8.out.size); (case aL => (try have := HOL.out); (try have := HP8.out); simp only [List.length_append, List.length_take, List.length_drop, List.length_singleton, List.length_nil, List.length_cons]; omega)
                  intro v42 w11 ho hb hg hat_
                  rw [List.nil_append] at ho
                  have H42 := aM ho
                  clear HB8 H38
                  have HB8 := aM hb
                  clear ho hb
                  have q_ := aM (Kd.R_grown1 H47.out rfl hg (by rw [hv38, hv47]; intro e_; have := Option.some.inj e_; omega))
                  clear H47
                  have H47 := q_
                  clear q_
                  refine hK.out _ _ ⟨pw_cell_below HB8.out HS8.out.1, pw_cell_below HB8.out HS8.out.2⟩ (fun hHeld => ?_)
                  clear hK K
                  refine norm_ (a' := ?_) ?_ ?_
                  rotate_left
                  · show Act.put _ (some 42) _ = _
                    simp only [Act.put, List.setIfInBounds_toArray, List.set_cons_zero, List.set_cons_succ, i64_w, i32_w]
                    rfl
                  exact norm_ (by simp only [putAll, Act.put, List.setIfInBounds_toArray, List.set_cons_zero, List.set_cons_succ]) (hCont (v38, v42, v47) _ ⟨⟨pw_cell_below HB8.out HS8.out.1, pw_cell_below HB8.out HS8.out.2⟩, H42.out, H47.out, HB8.out⟩)
              · skip
                refine Kd.R_lit_step k86 _ 86 ?hg (N := 47) ?hd (xs := ([x] : List (S86))) (inner := [.string x.f0, .string x.f1]) (ok := fun _ => True) (okp := fun _ => True) ?hr ?hp (fun _ hk => hk) trivial (Below.refl _ _) (Nat.le_refl _) (by simp) ?_; (case hd => rfl); (case hg => rfl); (case hr => first | (go_simp; done) | (go_simp; rfl)); (case hp => exact (Reps.c2 (k86_mkM _ _ _ x) (Reps.none _ _)))
                intro v47 w9 ho hb hg_ hn_; clear hg_
                obtain ⟨b47, hv47, hb47⟩ := hn_
                have H47 := aM (Kd.R_lower ho HB8.out.size)
                have hbS := aM hb
                have q_ := aM (below_step HB8.out hb)
                clear HB8
                have HB8 := q_
                clear q_ ho hbS hb
                have hlt47 := Kd.R_lt H47.out b47 hv47
                refine hK.out _ _ ⟨pw_cell_below HB8.out HS8.out.1, pw_cell_below HB8.out HS8.out.2⟩ (fun hHeld => ?_)
                clear hK K
                refine norm_ (a' := ?_) ?_ ?_
                rotate_left
                · show Act.put _ (some 47) _ = _
                  simp only [Act.put, List.setIfInBounds_toArray, List.set_cons_zero, List.set_cons_succ, i64_w, i32_w]
                  rfl
                refine one_ (i := 0) (N := some 38) (bz 16 15343) rfl rfl (one_of HT_.out (by kernel_rfl)) (by decide) (fun K hK => ?_)
                refine Kd.R_lit_step k86 _ 86 ?hg (N := 38) ?hd (xs := ([] : List (S86))) (inner := []) (ok := fun _ => True) (okp := fun _ => True) ?hr ?hp (fun _ hk => hk) trivial (Below.refl _ _) (Nat.le_refl _) (by simp) ?_; (case hd => rfl); (case hg => rfl); (case hr => first | (go_simp; done) | (go_simp; rfl)); (case hp => exact (Reps.none _ _))
                intro v38 w10 ho hb hg_ hn_; clear hg_
                obtain ⟨b38, hv38, hb38⟩ := hn_
                have H38 := aM (Kd.R_lower ho HB8.out.size)
                have hbS := aM hb
                have q_ := aM (below_step HB8.out hb)
                clear HB8
                have HB8 := q_
                clear q_ ho
                have q_ := aM (Kd.R_below H47.out hbS.out)
                clear H47
                have H47 := q_
                clear q_ hb hbS
                refine hK.out _ _ ⟨pw_cell_below HB8.out HS8.out.1, pw_cell_below HB8.out HS8.out.2⟩ (fun hHeld => ?_)
                clear hK K
                refine norm_ (a' := ?_) ?_ ?_
                rotate_left
                · show Act.put _ (some 38) _ = _
                  simp only [Act.put, List.setIfInBounds_toArray, List.set_cons_zero, List.set_cons_succ, i64_w, i32_w]
                  rfl
                refine one_ (i := 4) (N := some 42) (bz 16 15359) rfl rfl (one_of HT_.out (by kernel_rfl)) (by decide) (fun K hK => ?_)
                refine Kd.R_append_rows_step k86 (w0 := w8) (Rr := k86.K w10) w8.heap.size ?hw (.tmp 38) (.tmp 41) 24 86 (.agg #[(.string ⟨#[]⟩), (.string ⟨#[]⟩)]) 32 rfl Try.underlying24 info86 rfl (by decide) (by omega) v38 [] (out.take (0)) Ao _ co (fun _ => True) (fun _ => False) rfl rfl ?aO ?aR (fun x_ cs_ hK_ => by rw [k86_open hK_]; exact k86_mkM _ _ _ x_) (fun _ h => h.elim) (fun _ _ => trivial) HB8.out ?aS ?aL ?_
                (case hw => rfl); (case aO => exact H38.out); (case aR => exact Kd.C_below HT1.out HB8.out); (case aS => exact HB8.out.size); (case aL => (try have := HOL.out); (try have := HP8.out); simp only [List.length_append, List.length_take, List.length_drop, List.length_singleton, List.length_nil, List.length_cons]; omega)
                intro v42 w11 ho hb hg hat_
                rw [List.nil_append] at ho
                have H42 := aM ho
                clear HB8 H38
                have HB8 := aM hb
                clear ho hb
                have q_ := aM (Kd.R_grown1 H47.out rfl hg (by rw [hv38, hv47]; intro e_; have := Option.some.inj e_; omega))
                clear H47
                have H47 := q_
                clear q_
                refine hK.out _ _ ⟨pw_cell_below HB8.out HS8.out.1, pw_cell_below HB8.out HS8.out.2⟩ (fun hHeld => ?_)
                clear hK K
                refine norm_ (a' := ?_) ?_ ?_
                rotate_left
                · show Act.put _ (some 42) _ = _
                  simp only [Act.put, List.setIfInBounds_toArray, List.set_cons_zero, List.set_cons_succ, i64_w, i32_w]
                  rfl
                exact norm_ (by simp only [putAll, Act.put, List.setIfInBounds_toArray, List.set_cons_zero, List.set_cons_succ]) (hCont (v38, v42, v47) _ ⟨⟨pw_cell_below HB8.out HS8.out.1, pw_cell_below HB8.out HS8.out.2⟩, H42.out, H47.out, HB8.out⟩)
            rintro ⟨v38, v42, v47⟩ w11 ⟨hHeld, h42, h47, hb11⟩
            have H42 := aM h42
            obtain ⟨A7, c7, e7, hc7, hC7⟩ := Kd.R_reads h47
            have H47 := aM hC7
            clear HB8
            have HB8 := aM hb11
            clear h42 h47 hb11 hC7
            subst e7
            refine norm_ (a' := ?_) ?_ ?_
            rotate_left
            · simp only [putAll, Act.put, List.setIfInBounds_toArray, List.set_cons_zero, List.set_cons_succ]
              rfl
            refine one_ (i := 10) (N := some 48) (bz 16 16383) rfl rfl (one_of HT_.out (by kernel_rfl)) (by decide) (fun K hK => ?_)
            refine Kd.R_append_rows_step k86 (w0 := w8) (Rr := k86.K w11) w8.heap.size ?hw (.tmp 42) (.tmp 47) 24 86 (.agg #[(.string ⟨#[]⟩), (.string ⟨#[]⟩)]) 32 rfl Try.underlying24 info86 rfl (by decide) (by omega) v42 (out.take (0)) [x] A7 _ c7 (fun _ => True) (fun _ => False) rfl rfl ?aO ?aR (fun x_ cs_ hK_ => by rw [k86_open hK_]; exact k86_mkM _ _ _ x_) (fun _ h => h.elim) (fun _ _ => trivial) HB8.out ?aS ?aL ?_
            (case hw => rfl); (case aO => exact H42.out); (case aR => exact H47.out); (case aS => exact HB8.out.size); (case aL => (try have := HOL.out); (try have := HP8.out); simp only [List.length_append, List.length_take, List.length_drop, List.length_singleton, List.length_nil, List.length_cons]; omega)
            intro v48 w12 ho hb hg hat_
            have H48 := aM ho
            clear HB8 H42 H47
            have HB8 := aM hb
            clear ho hb hg hat_
            refine hK.out _ _ ⟨pw_cell_below HB8.out HS8.out.1, pw_cell_below HB8.out HS8.out.2⟩ (fun hHeld => ?_)
            clear hK K
            refine norm_ (a' := ?_) ?_ ?_
            rotate_left
            · show Act.put _ (some 48) _ = _
              simp only [Act.put, List.setIfInBounds_toArray, List.set_cons_zero, List.set_cons_succ, i64_w, i32_w]
              rfl
            refine one_ (i := 14) (N := some 52) (bz 16 32767) rfl rfl (one_of HT_.out (by kernel_rfl)) (by decide) (fun K hK => ?_)
            refine Kd.R_append_rows_step k86 (w0 := w8) (Rr := k86.K w12) w8.heap.size ?hw (.tmp 48) (.tmp 51) 24 86 (.agg #[(.string ⟨#[]⟩), (.string ⟨#[]⟩)]) 32 rfl Try.underlying24 info86 rfl (by decide) (by omega) v48 (out.take (0) ++ [x]) (out.drop (0)) A2 _ c2 (fun _ => True) (fun _ => False) rfl rfl ?aO ?aR (fun x_ cs_ hK_ => by rw [k86_open hK_]; exact k86_mkM _ _ _ x_) (fun _ h => h.elim) (fun _ _ => trivial) HB8.out ?aS ?aL ?_
            (case hw => rfl); (case aO => exact H48.out); (case aR => exact Kd.C_below HT2.out HB8.out); (case aS => exact HB8.out.size); (case aL => (try have := HOL.out); (try have := HP8.out); simp only [List.length_append, List.length_take, List.length_drop, List.length_singleton, List.length_nil, List.length_cons]; omega)
            intro v52 w13 ho hb hg hat_
            have H52 := aM ho
            clear HB8 H48
            have HB8 := aM hb
            clear ho hb hg hat_
            refine hK.out _ _ ⟨pw_cell_below HB8.out HS8.out.1, pw_cell_below HB8.out HS8.out.2⟩ (fun hHeld => ?_)
            clear hK K
            refine norm_ (a' := ?_) ?_ ?_
            rotate_left
            · show Act.put _ (some 52) _ = _
              simp only [Act.put, List.setIfInBounds_toArray, List.set_cons_zero, List.set_cons_succ, i64_w, i32_w]
              rfl
            refine (pu 15 (some 4) 65535 ?_ ?_ HT_ rfl rfl (by kernel_rfl) (fun _ _ _ h => h) ?_ ?_ ?_ ?_)
            all_goals first | (rintro w' ⟨s0, s1⟩; go_simp; with_reducible rfl) | (intro w'; go_simp; with_reducible rfl) | (simp only [Act.put, List.setIfInBounds_toArray, List.set_cons_zero, List.set_cons_succ, i64_w, i32_w]; rfl) | rfl | skip
            refine done_ (done_of HT_.out (by kernel_rfl)) ?_
            have H53 := H52.out
            rw [show out.take (0) ++ [x] ++ out.drop (0) = spec_SortSet.ins x out from by unfold spec_SortSet.ins; rw [HPP.out]] at H53
            obtain ⟨A5, c5, e5⟩ := Kd.R_slice H53
            rw [spec_SortSet.ins_len, HOL.out] at e5
            subst e5
            have H52 := aM (Kd.R_lower H53 HBd.out.size)
            have HBe := aM (below_step HBd.out HB8.out)
            clear H53 HBd HB8
            go_wp2
            go_roundg (5 - (i + 1))
            case measure => omega
            case rel => exact ⟨i + 1, spec_SortSet.ins x out, A5, c5, rfl, by go_num, by omega, by omega, Nat.le_refl _, ⟨by rw [spec_SortSet.ins_len, HOL.out]⟩, HG, H52, HBe⟩
          | succ j =>
            obtain ⟨m, hm⟩ : ∃ m : Int, m = ((j + 1 : Nat) : Int) := ⟨_, rfl⟩
            rw [← hm]
            have hmw : IntKind.i64.wrap (m - 1) = (j : Int) := by rw [show m - 1 = (j : Int) by omega, i64_w]; unfold wrap64; omega
            have hmv : Go.RowKit.wrap64 (m - 1) = (j : Int) := (i64_w _).symm.trans hmw
            have hm0 : decide (0 < m) = true := decide_eq_true (by omega)
            have hCo := (Kd.R_reads' HO.out).2.2
            obtain ⟨ao, eo, hy0, hy1⟩ := at_T86 hCo (j : Int) (by omega) (by have := HOL.out; omega)
            subst eo
            simp only [Int.toNat_natCast] at hy0 hy1
            have hx0 := pw_cell_below HB.out HX0.out
            have hx1 := pw_cell_below HB.out HX1.out
            have p2t : (0 ≤ (j : Int)) = True := eq_true (by omega)
            have q2t : ((j : Int) < (i : Int)) = True := eq_true (by omega)
            have q3t : (j < i) = True := eq_true (by omega)
            have HM := aM hm
            clear hm
            go_wp2
            cases hb : Op.bytesLess x.f0.toList (rd_T86 out (j : Int)).f0.toList with
            | true =>
              have hpj : spec_SortSet.pos x out (j + 1) = spec_SortSet.pos x out j := by show (if Op.bytesLess x.f0.toList (rd_T86 out (j : Int)).f0.toList = true then spec_SortSet.pos x out j else j + 1) = _; rw [if_pos hb]
              have HLS := aM (fun W => spec_Less.calls x.f0 (rd_T86 out (j : Int)).f0 true W (by unfold spec_Less.f; rw [hb]))
              have HPJ := aM hpj
              clear hpj hb
              refine start_ (n := 16) (S := fun w' => w'.cell? (ad.add (i * 2)) = some (.string x.f0) ∧ w'.cell? (ao.add (j * 2)) = some (.string (rd_T86 out (j : Int)).f0)) (ds := []) (bz 16 0) (by kernel_rfl) rfl (by kernel_rfl) ⟨hx0, hy0⟩ (fun hHeld => ?_); refine with_tabW spec_SortSet.tab6 spec_SortSet.bits6 (fun HT_ HW_ => ?_)
              have HO1 := aM (Kd.R_drew HO.out)
              have HB1 := aM (below_drew1 HB.out)
              clear HO HB
              have HO := HO1
              have HB := HB1
              clear HO1 HB1
              generalize wr.drew = wd at HO HB hHeld ⊢
              refine (pu 0 (some 20) 1 ?_ ?_ HT_ rfl rfl (by kernel_rfl) (fun _ _ _ h => h) ?_ ?_ ?_ (pu 1 (some 21) 3 ?_ ?_ HT_ rfl rfl (by kernel_rfl) (fun _ _ _ h => h) ?_ ?_ ?_ (pu 2 (some 22) 7 ?_ ?_ HT_ rfl rfl (by kernel_rfl) (fun _ _ _ h => h) ?_ ?_ ?_ (pu 3 (some 23) 15 ?_ ?_ HT_ rfl rfl (by kernel_rfl) (fun _ _ _ h => h) ?_ ?_ ?_ (pu 4 (some 24) 31 ?_ ?_ HT_ rfl rfl (by kernel_rfl) (fun _ _ _ h => h) ?_ ?_ ?_ (pu 5 (some 25) 63 ?_ ?_ HT_ rfl rfl (by kernel_rfl) (fun _ _ _ h => h) ?_ ?_ ?_ (pu 6 (some 26) 127 ?_ ?_ HT_ rfl rfl (by kernel_rfl) (fun _ _ _ h => h) ?_ ?_ ?_ (tk 7 (some 27) 255 ?_ ?_ HT_ HW_ rfl rfl (by kernel_rfl) (fun _ _ _ h => h) hHeld ?_ ?_ ?_ (pu 8 (some 28) 511 ?_ ?_ HT_ rfl rfl (by kernel_rfl) (fun _ _ _ h => h) ?_ ?_ ?_ (pu 9 (some 29) 1023 ?_ ?_ HT_ rfl rfl (by kernel_rfl) (fun _ _ _ h => h) ?_ ?_ ?_ (pu 10 (some 30) 2047 ?_ ?_ HT_ rfl rfl (by kernel_rfl) (fun _ _ _ h => h) ?_ ?_ ?_ (pu 11 (some 31) 4095 ?_ ?_ HT_ rfl rfl (by kernel_rfl) (fun _ _ _ h => h) ?_ ?_ ?_ (pu 12 (some 32) 8191 ?_ ?_ HT_ rfl rfl (by kernel_rfl) (fun _ _ _ h => h) ?_ ?_ ?_ (tk 13 (some 33) 16383 ?_ ?_ HT_ HW_ rfl rfl (by kernel_rfl) (fun _ _ _ h => h) hHeld ?_ ?_ ?_ ?_))))))))))))))
              all_goals first | (rintro w' ⟨s0, s1⟩; go_simp; with_reducible rfl) | (intro w'; go_simp; with_reducible rfl) | (simp only [Act.put, List.setIfInBounds_toArray, List.set_cons_zero, List.set_cons_succ, i64_w, i32_w]; rfl) | rfl | skip
              refine one_ (i := 14) (N := some 34) (bz 16 32767) rfl rfl (one_of HT_.out (by kernel_rfl)) (by decide) (fun K hK => ?_)
              refine goes_ Try.func118 (by kernel_rfl) rfl #[.string x.f0, .string (rd_T86 out (j : Int)).f0] (by rfl) rfl rfl (by (try simp only [List.map_toArray, List.map_cons, List.map_nil]); first | done | rfl) ?_
              with_reducible refine (HLS.out _).mono ?_
              rintro e wl ⟨rfl, ⟨nd, rfl⟩⟩
              refine ⟨_, rfl, ?_⟩
              refine hK.out _ _ hHeld (fun hHeld => ?_)
              clear hK K
              refine norm_ (a' := ?_) ?_ ?_
              rotate_left
              · show Act.put _ (some 34) _ = _
                simp only [Act.put, List.setIfInBounds_toArray, List.set_cons_zero, List.set_cons_succ, i64_w, i32_w]
                rfl
              refine (pu 15 (some 35) 65535 ?_ ?_ HT_ rfl rfl (by kernel_rfl) (fun _ _ _ h => h) ?_ ?_ ?_ ?_)
              all_goals first | (rintro w' ⟨s0, s1⟩; go_simp; with_reducible rfl) | (intro w'; go_simp; with_reducible rfl) | (simp only [Act.put, List.setIfInBounds_toArray, List.set_cons_zero, List.set_cons_succ, i64_w, i32_w]; rfl) | rfl | skip
              refine done_ (done_of HT_.out (by kernel_rfl)) ?_
              have HO1 := aM (Kd.R_drewN HO.out nd)
              have HB1 := aM (pw_below_drewN HB.out nd)
              clear HO HB HLS
              have HO := HO1
              have HB := HB1
              clear HO1 HB1 hHeld
              generalize wd.drewN nd = wr at HO HB ⊢
              go_wp2
              go_roundg j
              case measure => omega
              case rel => exact ⟨j, rfl, by omega, Nat.le_refl _, ⟨HPJ.out.symm.trans HP.out⟩, HO, HB⟩
            | false =>
              have hpj : spec_SortSet.pos x out (j + 1) = j + 1 := by show (if Op.bytesLess x.f0.toList (rd_T86 out (j : Int)).f0.toList = true then spec_SortSet.pos x out j else j + 1) = _; rw [if_neg (by rw [hb]; decide)]
              have HLS := aM (fun W => spec_Less.calls x.f0 (rd_T86 out (j : Int)).f0 false W (by unfold spec_Less.f; rw [hb]))
              have HPJ := aM hpj
              clear hpj hb
              refine start_ (n := 16) (S := fun w' => w'.cell? (ad.add (i * 2)) = some (.string x.f0) ∧ w'.cell? (ao.add (j * 2)) = some (.string (rd_T86 out (j : Int)).f0)) (ds := []) (bz 16 0) (by kernel_rfl) rfl (by kernel_rfl) ⟨hx0, hy0⟩ (fun hHeld => ?_); refine with_tabW spec_SortSet.tab6 spec_SortSet.bits6 (fun HT_ HW_ => ?_)
              have HO1 := aM (Kd.R_drew HO.out)
              have HB1 := aM (below_drew1 HB.out)
              clear HO HB
              have HO := HO1
              have HB := HB1
              clear HO1 HB1
              generalize wr.drew = wd at HO HB hHeld ⊢
              refine (pu 0 (some 20) 1 ?_ ?_ HT_ rfl rfl (by kernel_rfl) (fun _ _ _ h => h) ?_ ?_ ?_ (pu 1 (some 21) 3 ?_ ?_ HT_ rfl rfl (by kernel_rfl) (fun _ _ _ h => h) ?_ ?_ ?_ (pu 2 (some 22) 7 ?_ ?_ HT_ rfl rfl (by kernel_rfl) (fun _ _ _ h => h) ?_ ?_ ?_ (pu 3 (some 23) 15 ?_ ?_ HT_ rfl rfl (by kernel_rfl) (fun _ _ _ h => h) ?_ ?_ ?_ (pu 4 (some 24) 31 ?_ ?_ HT_ rfl rfl (by kernel_rfl) (fun _ _ _ h => h) ?_ ?_ ?_ (pu 5 (some 25) 63 ?_ ?_ HT_ rfl rfl (by kernel_rfl) (fun _ _ _ h => h) ?_ ?_ ?_ (pu 6 (some 26) 127 ?_ ?_ HT_ rfl rfl (by kernel_rfl) (fun _ _ _ h => h) ?_ ?_ ?_ (tk 7 (some 27) 255 ?_ ?_ HT_ HW_ rfl rfl (by kernel_rfl) (fun _ _ _ h => h) hHeld ?_ ?_ ?_ (pu 8 (some 28) 511 ?_ ?_ HT_ rfl rfl (by kernel_rfl) (fun _ _ _ h => h) ?_ ?_ ?_ (pu 9 (some 29) 1023 ?_ ?_ HT_ rfl rfl (by kernel_rfl) (fun _ _ _ h => h) ?_ ?_ ?_ (pu 10 (some 30) 2047 ?_ ?_ HT_ rfl rfl (by kernel_rfl) (fun _ _ _ h => h) ?_ ?_ ?_ (pu 11 (some 31) 4095 ?_ ?_ HT_ rfl rfl (by kernel_rfl) (fun _ _ _ h => h) ?_ ?_ ?_ (pu 12 (some 32) 8191 ?_ ?_ HT_ rfl rfl (by kernel_rfl) (fun _ _ _ h => h) ?_ ?_ ?_ (tk 13 (some 33) 16383 ?_ ?_ HT_ HW_ rfl rfl (by kernel_rfl) (fun _ _ _ h => h) hHeld ?_ ?_ ?_ ?_))))))))))))))
              all_goals first | (rintro w' ⟨s0, s1⟩; go_simp; with_reducible rfl) | (intro w'; go_simp; with_reducible rfl) | (simp only [Act.put, List.setIfInBounds_toArray, List.set_cons_zero, List.set_cons_succ, i64_w, i32_w]; rfl) | rfl | skip
              refine one_ (i := 14) (N := some 34) (bz 16 32767) rfl rfl (one_of HT_.out (by kernel_rfl)) (by decide) (fun K hK => ?_)
              refine goes_ Try.func118 (by kernel_rfl) rfl #[.string x.f0, .string (rd_T86 out (j : Int)).f0] (by rfl) rfl rfl (by (try simp only [List.map_toArray, List.map_cons, List.map_nil]); first | done | rfl) ?_
              with_reducible refine (HLS.out _).mono ?_
              rintro e wl ⟨rfl, ⟨nd, rfl⟩⟩
              refine ⟨_, rfl, ?_⟩
              refine hK.out _ _ hHeld (fun hHeld => ?_)
              clear hK K
              refine norm_ (a' := ?_) ?_ ?_
              rotate_left
              · show Act.put _ (some 34) _ = _
                simp only [Act.put, List.setIfInBounds_toArray, List.set_cons_zero, List.set_cons_succ, i64_w, i32_w]
                rfl
              refine (pu 15 (some 35) 65535 ?_ ?_ HT_ rfl rfl (by kernel_rfl) (fun _ _ _ h => h) ?_ ?_ ?_ ?_)
              all_goals first | (rintro w' ⟨s0, s1⟩; go_simp; with_reducible rfl) | (intro w'; go_simp; with_reducible rfl) | (simp only [Act.put, List.setIfInBounds_toArray, List.set_cons_zero, List.set_cons_succ, i64_w, i32_w]; rfl) | rfl | skip
              refine done_ (done_of HT_.out (by kernel_rfl)) ?_
              have HO1 := aM (Kd.R_drewN HO.out nd)
              have HB1 := aM (pw_below_drewN HB.out nd)
              clear HO HB HLS
              have HO := HO1
              have HB := HB1
              clear HO1 HB1 hHeld
              generalize wd.drewN nd = wr at HO HB ⊢
              go_wp2
              have HPP := aM (show spec_SortSet.pos x out out.length = j + 1 from by rw [HOL.out, ← HP.out]; exact HPJ.out)
              have hx0 := pw_cell_below HB.out HX0.out
              have hx1 := pw_cell_below HB.out HX1.out
              have hm_ := HM.out
              have hroom : i ≤ co := (Kd.R_reads' HO.out).2.1
              have hCo := (Kd.R_reads' HO.out).2.2
              obtain ⟨i0_, hi0_, _, hsz_, _⟩ := info_parts info86
              have hcut1 := cut_to (P := Try.prog) 24 86 .i64 Try.underlying24 hi0_ (some ao) i co m (by omega) (by omega) hroom
              have hcut2 := cut_from (P := Try.prog) 24 86 .i64 Try.underlying24 hi0_ 2 hsz_ (some ao) i co m (by omega) (by omega)
              rw [show (m : Int).toNat = j + 1 by omega] at hcut1 hcut2
              have hT1 := Kd.C_take (m := j + 1) hCo (by have := HOL.out; omega)
              have hT2 := Kd.C_drop (m := j + 1) (c := co) hCo (by have := HOL.out; omega) (by have := HOL.out; omega)
              rw [show (out.take (j + 1)).length = j + 1 by have := HOL.out; rw [List.length_take]; omega] at hT1
              rw [show (out.drop (j + 1)).length = i - (j + 1) by have := HOL.out; rw [List.length_drop]; omega] at hT2
              have hsz2 : k86.sz = 2 := rfl
              rw [hsz2] at hT2
              generalize (if co = j + 1 then (some ao) else ((some ao)).map (·.add ((j + 1) * 2))) = A2 at hcut2 hT2
              generalize hn2 : i - (j + 1) = n2 at hcut2 hT2
              generalize co - (j + 1) = c2 at hcut2
              have HT1 := aM (Kd.C_drew hT1)
              have HT2 := aM (Kd.C_drew hT2)
              have HBd := aM (below_drew1 HB.out)
              clear hCo hT1 hT2 hroom hi0_ hsz_ hm_
              have HP8 := aM (show j + 1 ≤ i ∧ n2 ≤ i from by omega)
              have HN2 := aM hn2
              clear hn2
              refine start_ (n := 16) (S := fun w' => w'.cell? (ad.add (i * 2)) = some (.string x.f0) ∧ w'.cell? ⟨(ad.add (i * 2)).block, (ad.add (i * 2)).off + 1, none⟩ = some (.string x.f1)) (ds := []) (bz 16 0) (by kernel_rfl) rfl (by kernel_rfl) ⟨hx0, hx1⟩ (fun hHeld => ?_); refine with_tabW spec_SortSet.tab8 spec_SortSet.bits8 (fun HT_ HW_ => ?_)
              clear HO HB
              have hBq := HBd
              clear HBd
              have HBd := hBq
              clear hBq
              generalize wr.drew = w8 at HT1 HT2 HBd hHeld ⊢
              have HB8 := aM (Below.refl w8.heap.size w8)
              refine (pu 1 (some 39) 2 ?_ ?_ HT_ rfl rfl (by kernel_rfl) (fun _ _ _ h => h) ?_ ?_ ?_ (pu 2 (some 40) 6 ?_ ?_ HT_ rfl rfl (by kernel_rfl) (fun _ _ _ h => h) ?_ ?_ ?_ (pu 3 (some 41) 14 ?_ ?_ HT_ rfl rfl (by kernel_rfl) (fun _ _ _ h => h) ?_ ?_ ?_ (pu 5 (some 43) 46 ?_ ?_ HT_ rfl rfl (by kernel_rfl) (fun _ _ _ h => h) ?_ ?_ ?_ (pu 6 (some 44) 110 ?_ ?_ HT_ rfl rfl (by kernel_rfl) (fun _ _ _ h => h) ?_ ?_ ?_ (pu 7 (some 45) 238 ?_ ?_ HT_ rfl rfl (by kernel_rfl) (fun _ _ _ h => h) ?_ ?_ ?_ (tk 8 (some 46) 494 ?_ ?_ HT_ HW_ rfl rfl (by kernel_rfl) (fun _ _ _ h => h) hHeld ?_ ?_ ?_ (pu 11 (some 49) 2542 ?_ ?_ HT_ rfl rfl (by kernel_rfl) (fun _ _ _ h => h) ?_ ?_ ?_ (pu 12 (some 50) 6638 ?_ ?_ HT_ rfl rfl (by kernel_rfl) (fun _ _ _ h => h) ?_ ?_ ?_ (pu 13 (some 51) 14830 ?_ ?_ HT_ rfl rfl (by kernel_rfl) (fun _ _ _ h => h) ?_ ?_ ?_ ?_))))))))))
              all_goals first | (rintro w' ⟨s0, s1⟩; go_simp; with_reducible rfl) | (intro w'; go_simp; with_reducible rfl) | (simp only [Act.put, List.setIfInBounds_toArray, List.set_cons_zero, List.set_cons_succ, i64_w, i32_w]; rfl) | rfl | skip
              have HS8 := aM hHeld
              refine join_ (σ := Value × Value × Value) 3 (bz 16 15359) (fun s_ => [(38, s_.1), (42, s_.2.1), (47, s_.2.2)]) (fun s_ w' => (w'.cell? (ad.add (i * 2)) = some (.string x.f0) ∧ w'.cell? ⟨(ad.add (i * 2)).block, (ad.add (i * 2)).off + 1, none⟩ = some (.string x.f1)) ∧ Kd.R k86 86 w' w8.heap.size (fun _ => True) s_.2.1 (out.take (j + 1)) ∧ Kd.R k86 86 w' w8.heap.size (fun _ => True) s_.2.2 [x] ∧ Below w8.heap.size w8 w') ?_ ?_
              rotate_left
              · intro hCont
                refine two_ (i := 0) (j := 9) (Ni := some 38) (Nj := some 47) (bz 16 14831) (bz 16 15342) rfl rfl rfl rfl (two_of HT_.out (by kernel_rfl)) (by decide) (by decide) (fun K hK => ?_) (fun K hK => ?_)
                · skip
                  refine Kd.R_lit_step k86 _ 86 ?hg (N := 38) ?hd (xs := ([] : List (S86))) (inner := []) (ok := fun _ => True) (okp := fun _ => True) ?hr ?hp (fun _ hk => hk) trivial (Below.refl _ _) (Nat.le_refl _) (by simp) ?_; (case hd => rfl); (case hg => rfl); (case hr => first | (go_simp; done) | (go_simp; rfl)); (case hp => exact (Reps.none _ _))
                  intro v38 w9 ho hb hg_ hn_; clear hg_
                  obtain ⟨b38, hv38, hb38⟩ := hn_
                  have H38 := aM (Kd.R_lower ho HB8.out.size)
                  have hbS := aM hb
                  have q_ := aM (below_step HB8.out hb)
                  clear HB8
                  have HB8 := q_
                  clear q_ ho hbS hb
                  refine hK.out _ _ ⟨pw_cell_below HB8.out HS8.out.1, pw_cell_below HB8.out HS8.out.2⟩ (fun hHeld => ?_)
                  clear hK K
                  refine norm_ (a' := ?_) ?_ ?_
                  rotate_left
                  · show Act.put _ (some 38) _ = _
                    simp only [Act.put, List.setIfInBounds_toArray, List.set_cons_zero, List.set_cons_succ, i64_w, i32_w]
                    rfl
                  refine two_ (i := 4) (j := 9) (Ni := some 42) (Nj := some 47) (bz 16 14847) (bz 16 15343) rfl rfl rfl rfl (two_of HT_.out (by kernel_rfl)) (by decide) (by decide) (fun K hK => ?_) (fun K hK => ?_)
                  · skip
                    refine Kd.R_append_rows_step k86 (w0 := w8) (Rr := k86.K w9) w8.heap.size ?hw (.tmp 38) (.tmp 41) 24 86 (.agg #[(.string ⟨#[]⟩), (.string ⟨#[]⟩)]) 32 rfl Try.underlying24 info86 rfl (by decide) (by omega) v38 [] (out.take (j + 1)) (some ao) _ co (fun _ => True) (fun _ => False) rfl rfl ?aO ?aR (fun x_ cs_ hK_ => by rw [k86_open hK_]; exact k86_mkM _ _ _ x_) (fun _ h => h.elim) (fun _ _ => trivial) HB8.out ?aS ?aL ?_
                    (case hw => rfl); (case aO => exact H38.out); (case aR => exact Kd.C_below HT1.out HB8.out); (case aS => exact HB8.out.size); (case aL => (try have := HOL.out); (try have := HP8.out); simp only [List.length_append, List.length_take, List.length_drop, List.length_singleton, List.length_nil, List.length_cons]; omega)
                    intro v42 w10 ho hb hg hat_
                    rw [List.nil_append] at ho
                    have H42 := aM ho
                    clear HB8 H38
                    have HB8 := aM hb
                    clear ho hb hg hat_
                    refine hK.out _ _ ⟨pw_cell_below HB8.out HS8.out.1, pw_cell_below HB8.out HS8.out.2⟩ (fun hHeld => ?_)
                    clear hK K
                    refine norm_ (a' := ?_) ?_ ?_
                    rotate_left
                    · show Act.put _ (some 42) _ = _
                      simp only [Act.put, List.setIfInBounds_toArray, List.set_cons_zero, List.set_cons_succ, i64_w, i32_w]
                      rfl
                    refine one_ (i := 9) (N := some 47) (bz 16 15359) rfl rfl (one_of HT_.out (by kernel_rfl)) (by decide) (fun K hK => ?_)
                    refine Kd.R_lit_step k86 _ 86 ?hg (N := 47) ?hd (xs := ([x] : List (S86))) (inner := [.string x.f0, .string x.f1]) (ok := fun _ => True) (okp := fun _ => True) ?hr ?hp (fun _ hk => hk) trivial (Below.refl _ _) (Nat.le_refl _) (by simp) ?_; (case hd => rfl); (case hg => rfl); (case hr => first | (go_simp; done) | (go_simp; rfl)); (case hp => exact (Reps.c2 (k86_mkM _ _ _ x) (Reps.none _ _)))
                    intro v47 w11 ho hb hg_ hn_; clear hg_
                    obtain ⟨b47, hv47, hb47⟩ := hn_
                    have H47 := aM (Kd.R_lower ho HB8.out.size)
                    have hbS := aM hb
                    have q_ := aM (below_step HB8.out hb)
                    clear HB8
                    have HB8 := q_
                    clear q_ ho
                    have q_ := aM (Kd.R_below H42.out hbS.out)
                    clear H42
                    have H42 := q_
                    clear q_
                    refine hK.out _ _ ⟨pw_cell_below HB8.out HS8.out.1, pw_cell_below HB8.out HS8.out.2⟩ (fun hHeld => ?_)
                    clear hK K
                    refine norm_ (a' := ?_) ?_ ?_
                    rotate_left
                    · show Act.put _ (some 47) _ = _
                      simp only [Act.put, List.setIfInBounds_toArray, List.set_cons_zero, List.set_cons_succ, i64_w, i32_w]
                      rfl
                    exact norm_ (by simp only [putAll, Act.put, List.setIfInBounds_toArray, List.set_cons_zero, List.set_cons_succ]) (hCont (v38, v42, v47) _ ⟨⟨pw_cell_below HB8.out HS8.out.1, pw_cell_below HB8.out HS8.out.2⟩, H42.out, H47.out, HB8.out⟩)
                  · skip
                    have hlt38 := Kd.R_lt H38.out b38 hv38
                    refine Kd.R_lit_step k86 _ 86 ?hg (N := 47) ?hd (xs := ([x] : List (S86))) (inner := [.string x.f0, .string x.f1]) (ok := fun _ => True) (okp := fun _ => True) ?hr ?hp (fun _ hk => hk) trivial (Below.refl _ _) (Nat.le_refl _) (by simp) ?_; (case hd => rfl); (case hg => rfl); (case hr => first | (go_simp; done) | (go_simp; rfl)); (case hp => exact (Reps.c2 (k86_mkM _ _ _ x) (Reps.none _ _)))
                    intro v47 w10 ho hb hg_ hn_; clear hg_
                    obtain ⟨b47, hv47, hb47⟩ := hn_
                    have H47 := aM (Kd.R_lower ho HB8.out.size)
                    have hbS := aM hb
                    have q_ := aM (below_step HB8.out hb)
                    clear HB8
                    have HB8 := q_
                    clear q_ ho
                    have q_ := aM (Kd.R_below H38.out hbS.out)
                    clear H38
                    have H38 := q_
                    clear q_ hb hbS
                    refine hK.out _ _ ⟨pw_cell_below HB8.out HS8.out.1, pw_cell_below HB8.out HS8.out.2⟩ (fun hHeld => ?_)
                    clear hK K
                    refine norm_ (a' := ?_) ?_ ?_
                    rotate_left
                    · show Act.put _ (some 47) _ = _
                      simp only [Act.put, List.setIfInBounds_toArray, List.set_cons_zero, List.set_cons_succ, i64_w, i32_w]
                      rfl
                    refine one_ (i := 4) (N := some 42) (bz 16 15359) rfl rfl (one_of HT_.out (by kernel_rfl)) (by decide) (fun K hK => ?_)
                    refine Kd.R_append_rows_step k86 (w0 := w8) (Rr := k86.K w10) w8.heap.size ?hw (.tmp 38) (.tmp 41) 24 86 (.agg #[(.string ⟨#[]⟩), (.string ⟨#[]⟩)]) 32 rfl Try.underlying24 info86 rfl (by decide) (by omega) v38 [] (out.take (j + 1)) (some ao) _ co (fun _ => True) (fun _ => False) rfl rfl ?aO ?aR (fun x_ cs_ hK_ => by rw [k86_open hK_]; exact k86_mkM _ _ _ x_) (fun _ h => h.elim) (fun _ _ => trivial) HB8.out ?aS ?aL ?_
                    (case hw => rfl); (case aO => exact H38.out); (case aR => exact Kd.C_below HT1.out HB8.out); (case aS => exact HB8.out.size); (case aL => (try have := HOL.out); (try have := HP8.out); simp only [List.length_append, List.length_take, List.length_drop, List.length_singleton, List.length_nil, List.length_cons]; omega)
                    intro v42 w11 ho hb hg hat_
                    rw [List.nil_append] at ho
                    have H42 := aM ho
                    clear HB8 H38
                    have HB8 := aM hb
                    clear ho hb
                    have q_ := aM (Kd.R_grown1 H47.out rfl hg (by rw [hv38, hv47]; intro e_; have := Option.some.inj e_; omega))
                    clear H47
                    have H47 := q_
                    clear q_
                    refine hK.out _ _ ⟨pw_cell_below HB8.out HS8.out.1, pw_cell_below HB8.out HS8.out.2⟩ (fun hHeld => ?_)
                    clear hK K
                    refine norm_ (a' := ?_) ?_ ?_
                    rotate_left
                    · show Act.put _ (some 42) _ = _
                      simp only [Act.put, List.setIfInBounds_toArray, List.set_cons_zero, List.set_cons_succ, i64_w, i32_w]
                      rfl
                    exact norm_ (by simp only [putAll, Act.put, List.setIfInBounds_toArray, List.set_cons_zero, List.set_cons_succ]) (hCont (v38, v42, v47) _ ⟨⟨pw_cell_below HB8.out HS8.out.1, pw_cell_below HB8.out HS8.out.2⟩, H42.out, H47.out, HB8.out⟩)
                · skip
                  refine Kd.R_lit_step k86 _ 86 ?hg (N := 47) ?hd (xs := ([x] : List (S86))) (inner := [.string x.f0, .string x.f1]) (ok := fun _ => True) (okp := fun _ => True) ?hr ?hp (fun _ hk => hk) trivial (Below.refl _ _) (Nat.le_refl _) (by simp) ?_; (case hd => rfl); (case hg => rfl); (case hr => first | (go_simp; done) | (go_simp; rfl)); (case hp => exact (Reps.c2 (k86_mkM _ _ _ x) (Reps.none _ _)))
                  intro v47 w9 ho hb hg_ hn_; clear hg_
                  obtain ⟨b47, hv47, hb47⟩ := hn_
                  have H47 := aM (Kd.R_lower ho HB8.out.size)
                  have hbS := aM hb
                  have q_ := aM (below_step HB8.out hb)
                  clear HB8
                  have HB8 := q_
                  clear q_ ho hbS hb
                  have hlt47 := Kd.R_lt H47.out b47 hv47
                  refine hK.out _ _ ⟨pw_cell_below HB8.out HS8.out.1, pw_cell_below HB8.out HS8.out.2⟩ (fun hHeld => ?_)
                  clear hK K
                  refine norm_ (a' := ?_) ?_ ?_
                  rotate_left
                  · show Act.put _ (some 47) _ = _
                    simp only [Act.put, List.setIfInBounds_toArray, List.set_cons_zero, List.set_cons_succ, i64_w, i32_w]
                    rfl
                  refine one_ (i := 0) (N := some 38) (bz 16 15343) rfl rfl (one_of HT_.out (by kernel_rfl)) (by decide) (fun K hK => ?_)
                  refine Kd.R_lit_step k86 _ 86 ?hg (N := 38) ?hd (xs := ([] : List (S86))) (inner := []) (ok := fun _ => True) (okp := fun _ => True) ?hr ?hp (fun _ hk => hk) trivial (Below.refl _ _) (Nat.le_refl _) (by simp) ?_; (case hd => rfl); (case hg => rfl); (case hr => first | (go_simp; done) | (go_simp; rfl)); (case hp => exact (Reps.none _ _))
                  intro v38 w10 ho hb hg_ hn_; clear hg_
                  obtain ⟨b38, hv38, hb38⟩ := hn_
                  have H38 := aM (Kd.R_lower ho HB8.out.size)
                  have hbS := aM hb
                  have q_ := aM (below_step HB8.out hb)
                  clear HB8
                  have HB8 := q_
                  clear q_ ho
                  have q_ := aM (Kd.R_below H47.out hbS.out)
                  clear H47
                  have H47 := q_
                  clear q_ hb hbS
                  refine hK.out _ _ ⟨pw_cell_below HB8.out HS8.out.1, pw_cell_below HB8.out HS8.out.2⟩ (fun hHeld => ?_)
                  clear hK K
                  refine norm_ (a' := ?_) ?_ ?_
                  rotate_left
                  · show Act.put _ (some 38) _ = _
                    simp only [Act.put, List.setIfInBounds_toArray, List.set_cons_zero, List.set_cons_succ, i64_w, i32_w]
                    rfl
                  refine one_ (i := 4) (N := some 42) (bz 16 15359) rfl rfl (one_of HT_.out (by kernel_rfl)) (by decide) (fun K hK => ?_)
                  refine Kd.R_append_rows_step k86 (w0 := w8) (Rr := k86.K w10) w8.heap.size ?hw (.tmp 38) (.tmp 41) 24 86 (.agg #[(.string ⟨#[]⟩), (.string ⟨#[]⟩)]) 32 rfl Try.underlying24 info86 rfl (by decide) (by omega) v38 [] (out.take (j + 1)) (some ao) _ co (fun _ => True) (fun _ => False) rfl rfl ?aO ?aR (fun x_ cs_ hK_ => by rw [k86_open hK_]; exact k86_mkM _ _ _ x_) (fun _ h => h.elim) (fun _ _ => trivial) HB8.out ?aS ?aL ?_
                  (case hw => rfl); (case aO => exact H38.out); (case aR => exact Kd.C_below HT1.out HB8.out); (case aS => exact HB8.out.size); (case aL => (try have := HOL.out); (try have := HP8.out); simp only [List.length_append, List.length_take, List.length_drop, List.length_singleton, List.length_nil, List.length_cons]; omega)
                  intro v42 w11 ho hb hg hat_
                  rw [List.nil_append] at ho
                  have H42 := aM ho
                  clear HB8 H38
                  have HB8 := aM hb
                  clear ho hb
                  have q_ := aM (Kd.R_grown1 H47.out rfl hg (by rw [hv38, hv47]; intro e_; have := Option.some.inj e_; omega))
                  clear H47
                  have H47 := q_
                  clear q_
                  refine hK.out _ _ ⟨pw_cell_below HB8.out HS8.out.1, pw_cell_below HB8.out HS8.out.2⟩ (fun hHeld => ?_)
                  clear hK K
                  refine norm_ (a' := ?_) ?_ ?_
                  rotate_left
                  · show Act.put _ (some 42) _ = _
                    simp only [Act.put, List.setIfInBounds_toArray, List.set_cons_zero, List.set_cons_succ, i64_w, i32_w]
                    rfl
                  exact norm_ (by simp only [putAll, Act.put, List.setIfInBounds_toArray, List.set_cons_zero, List.set_cons_succ]) (hCont (v38, v42, v47) _ ⟨⟨pw_cell_below HB8.out HS8.out.1, pw_cell_below HB8.out HS8.out.2⟩, H42.out, H47.out, HB8.out⟩)
              rintro ⟨v38, v42, v47⟩ w11 ⟨hHeld, h42, h47, hb11⟩
              have H42 := aM h42
              obtain ⟨A7, c7, e7, hc7, hC7⟩ := Kd.R_reads h47
              have H47 := aM hC7
              clear HB8
              have HB8 := aM hb11
              clear h42 h47 hb11 hC7
              subst e7
              refine norm_ (a' := ?_) ?_ ?_
              rotate_left
              · simp only [putAll, Act.put, List.setIfInBounds_toArray, List.set_cons_zero, List.set_cons_succ]
                rfl
              refine one_ (i := 10) (N := some 48) (bz 16 16383) rfl rfl (one_of HT_.out (by kernel_rfl)) (by decide) (fun K hK => ?_)
              refine Kd.R_append_rows_step k86 (w0 := w8) (Rr := k86.K w11) w8.heap.size ?hw (.tmp 42) (.tmp 47) 24 86 (.agg #[(.string ⟨#[]⟩), (.string ⟨#[]⟩)]) 32 rfl Try.underlying24 info86 rfl (by decide) (by omega) v42 (out.take (j + 1)) [x] A7 _ c7 (fun _ => True) (fun _ => False) rfl rfl ?aO ?aR (fun x_ cs_ hK_ => by rw [k86_open hK_]; exact k86_mkM _ _ _ x_) (fun _ h => h.elim) (fun _ _ => trivial) HB8.out ?aS ?aL ?_
              (case hw => rfl); (case aO => exact H42.out); (case aR => exact H47.out); (case aS => exact HB8.out.size); (case aL => (try have := HOL.out); (try have := HP8.out); simp only [List.length_append, List.length_take, List.length_drop, List.length_singleton, List.length_nil, List.length_cons]; omega)
              intro v48 w12 ho hb hg hat_
              have H48 := aM ho
              clear HB8 H42 H47
              have HB8 := aM hb
              clear ho hb hg hat_
              refine hK.out _ _ ⟨pw_cell_below HB8.out HS8.out.1, pw_cell_below HB8.out HS8.out.2⟩ (fun hHeld => ?_)
              clear hK K
              refine norm_ (a' := ?_) ?_ ?_
              rotate_left
              · show Act.put _ (some 48) _ = _
                simp only [Act.put, List.setIfInBounds_toArray, List.set_cons_zero, List.set_cons_succ, i64_w, i32_w]
                rfl
              refine one_ (i := 14) (N := some 52) (bz 16 32767) rfl rfl (one_of HT_.out (by kernel_rfl)) (by decide) (fun K hK => ?_)
              refine Kd.R_append_rows_step k86 (w0 := w8) (Rr := k86.K w12) w8.heap.size ?hw (.tmp 48) (.tmp 51) 24 86 (.agg #[(.string ⟨#[]⟩), (.string ⟨#[]⟩)]) 32 rfl Try.underlying24 info86 rfl (by decide) (by omega) v48 (out.take (j + 1) ++ [x]) (out.drop (j + 1)) A2 _ c2 (fun _ => True) (fun _ => False) rfl rfl ?aO ?aR (fun x_ cs_ hK_ => by rw [k86_open hK_]; exact k86_mkM _ _ _ x_) (fun _ h => h.elim) (fun _ _ => trivial) HB8.out ?aS ?aL ?_
              (case hw => rfl); (case aO => exact H48.out); (case aR => exact Kd.C_below HT2.out HB8.out); (case aS => exact HB8.out.size); (case aL => (try have := HOL.out); (try have := HP8.out); simp only [List.length_append, List.length_take, List.length_drop, List.length_singleton, List.length_nil, List.length_cons]; omega)
              intro v52 w13 ho hb hg hat_
              have H52 := aM ho
              clear HB8 H48
              have HB8 := aM hb
              clear ho hb hg hat_
              refine hK.out _ _ ⟨pw_cell_below HB8.out HS8.out.1, pw_cell_below HB8.out HS8.out.2⟩ (fun hHeld => ?_)
              clear hK K
              refine norm_ (a' := ?_) ?_ ?_
              rotate_left
              · show Act.put _ (some 52) _ = _
                simp only [Act.put, List.setIfInBounds_toArray, List.set_cons_zero, List.set_cons_succ, i64_w, i32_w]
                rfl
              refine (pu 15 (some 4) 65535 ?_ ?_ HT_ rfl rfl (by kernel_rfl) (fun _ _ _ h => h) ?_ ?_ ?_ ?_)
              all_goals first | (rintro w' ⟨s0, s1⟩; go_simp; with_reducible rfl) | (intro w'; go_simp; with_reducible rfl) | (simp only [Act.put, List.setIfInBounds_toArray, List.set_cons_zero, List.set_cons_succ, i64_w, i32_w]; rfl) | rfl | skip
              refine done_ (done_of HT_.out (by kernel_rfl)) ?_
              have H53 := H52.out
              rw [show out.take (j + 1) ++ [x] ++ out.drop (j + 1) = spec_SortSet.ins x out from by unfold spec_SortSet.ins; rw [HPP.out]] at H53
              obtain ⟨A5, c5, e5⟩ := Kd.R_slice H53
              rw [spec_SortSet.ins_len, HOL.out] at e5
              subst e5
              have H52 := aM (Kd.R_lower H53 HBd.out.size)
              have HBe := aM (below_step HBd.out HB8.out)
              clear H53 HBd HB8
              go_wp2
              go_roundg (5 - (i + 1))
              case measure => omega
              case rel => exact ⟨i + 1, spec_SortSet.ins x out, A5, c5, rfl, by go_num, by omega, by omega, Nat.le_refl _, ⟨by rw [spec_SortSet.ins_len, HOL.out]⟩, HG, H52, HBe⟩
      · have h4b : decide ((i : Int) ≤ 4) = false := decide_eq_false (by omega)
        have H := HG.out
        rw [drop5_nil l0 i (by omega)] at H
        simp only [spec_SortSet.go] at H
        have HX1 := HX.out
        rw [← H] at HX1
        obtain ⟨t, ht, HX1⟩ := Option.bind_eq_some_iff.mp HX1
        have hS := fun W hr hc => spec_SetOk.calls k Ao co out t W hr hc ht
        rw [HOL.out] at hS
        have HS := aM (hS _ (by have := (Kd.R_reads' HO.out).2.2; rwa [HOL.out] at this) (by exact (Kd.R_reads' HO.out).2.1))
        have HXX := aM HX1
        clear hS HX1 ht HX H HG
        cases t with
        | true =>
          have HX2 := HXX.out
          rw [if_pos rfl] at HX2
          simp only [Option.some.injEq, Prod.mk.injEq] at HX2
          obtain ⟨rfl, rfl⟩ := HX2
          clear HXX
          go_wp2_with (go_at_call 76; refine HS.out.mono ?_; rintro e w3 ⟨rfl, hb3⟩; have HR3 := rb HO hb3; have HB3 := aM (below_step HB.out hb3); clear hb3)
          go_ret2
          exact ⟨_, rfl, HR3.out, HB3.out⟩
        | false =>
          have HX2 := HXX.out
          rw [if_neg (by decide)] at HX2
          simp only [Option.some.injEq, Prod.mk.injEq] at HX2
          obtain ⟨rfl, rfl⟩ := HX2
          clear HXX
          go_wp2_with (first | (go_at_call 76; refine HS.out.mono ?_; rintro e w3 ⟨rfl, hb3⟩; have HB3 := aM (below_step HB.out hb3); clear hb3) | ((with_reducible refine gate_dst (N := 56) rfl ?_); refine Kd.R_lit k86 _ 86 ?hg (N := 56) ?hd (xs := ([] : List (S86))) (inner := []) (ok := fun _ => True) (okp := fun _ => True) ?hr ?hp (fun _ hk => hk) trivial (Below.refl _ _) (Nat.le_refl _) (by simp) ?_; (case hd => rfl); (case hg => rfl); (case hr => first | (go_simp; done) | (go_simp; rfl)); (case hp => exact (Reps.none _ _)); intro v56 w4 ho4 hb4 hg_ hnew_; clear hg_ hnew_; have HR4 := aM (Kd.R_lower ho4 HB3.out.size); have HB4 := aM (below_step HB3.out hb4); clear ho4 hb4))
          go_ret2
          exact ⟨_, rfl, HR4.out, HB4.out⟩
    · have hltb : decide ((i : Int) < (l0.length : Int)) = false := decide_eq_false (by omega)
      have H := HG.out
      rw [drop5_nil l0 i (by omega)] at H
      simp only [spec_SortSet.go] at H
      have HX1 := HX.out
      rw [← H] at HX1
      obtain ⟨t, ht, HX1⟩ := Option.bind_eq_some_iff.mp HX1
      have hS := fun W hr hc => spec_SetOk.calls k Ao co out t W hr hc ht
      rw [HOL.out] at hS
      have HS := aM (hS _ (by have := (Kd.R_reads' HO.out).2.2; rwa [HOL.out] at this) (by exact (Kd.R_reads' HO.out).2.1))
      have HXX := aM HX1
      clear hS HX1 ht HX H HG
      cases t with
      | true =>
        have HX2 := HXX.out
        rw [if_pos rfl] at HX2
        simp only [Option.some.injEq, Prod.mk.injEq] at HX2
        obtain ⟨rfl, rfl⟩ := HX2
        clear HXX
        go_wp2_with (go_at_call 76; refine HS.out.mono ?_; rintro e w3 ⟨rfl, hb3⟩; have HR3 := rb HO hb3; have HB3 := aM (below_step HB.out hb3); clear hb3)
        go_ret2
        exact ⟨_, rfl, HR3.out, HB3.out⟩
      | false =>
        have HX2 := HXX.out
        rw [if_neg (by decide)] at HX2
        simp only [Option.some.injEq, Prod.mk.injEq] at HX2
        obtain ⟨rfl, rfl⟩ := HX2
        clear HXX
        go_wp2_with (first | (go_at_call 76; refine HS.out.mono ?_; rintro e w3 ⟨rfl, hb3⟩; have HB3 := aM (below_step HB.out hb3); clear hb3) | ((with_reducible refine gate_dst (N := 56) rfl ?_); refine Kd.R_lit k86 _ 86 ?hg (N := 56) ?hd (xs := ([] : List (S86))) (inner := []) (ok := fun _ => True) (okp := fun _ => True) ?hr ?hp (fun _ hk => hk) trivial (Below.refl _ _) (Nat.le_refl _) (by simp) ?_; (case hd => rfl); (case hg => rfl); (case hr => first | (go_simp; done) | (go_simp; rfl)); (case hp => exact (Reps.none _ _)); intro v56 w4 ho4 hb4 hg_ hnew_; clear hg_ hnew_; have HR4 := aM (Kd.R_lower ho4 HB3.out.size); have HB4 := aM (below_step HB3.out hb4); clear ho4 hb4))
        go_ret2
        exact ⟨_, rfl, HR4.out, HB4.out⟩

/-! ### impl_copySet: function 120 (a contract of the shelf) -/
def impl_copySet.f (l0 : List (S86)) : Option (List (S86)) := if l0.length < 4398046511104 then some l0 else none
set_option maxHeartbeats 8000000 in
set_option maxRecDepth 100000 in
theorem impl_copySet.calls (A0 : Option Addr) (c0 : Nat) (l0 : List (S86)) (r : List (S86)) (w : World) (hr0 : Kd.C k86 w A0 l0.length l0) (hc0 : l0.length ≤ c0) (h : impl_copySet.f l0 = some r) :
    Calls Try.prog 120 #[.slice A0 l0.length c0] w fun e w' => ∃ v0_ : Value, e = .returned (v0_) ∧ Kd.R k86 86 w' w.heap.size (fun _ => True) v0_ r ∧ Below w.heap.size w w' := by
  have HR0 := aM hr0
  have HC0 := aM hc0
  clear hr0 hc0
  have HB := aM (Below.refl w.heap.size w)
  unfold impl_copySet.f at h
  by_cases c2 : l0.length < 4398046511104
  · rw [if_pos c2] at h
    have LM := aM c2
    clear c2
    obtain rfl := Option.some.inj h
    clear h
    go_enter Try.func120, Try.ntmps120
    go_wp2_with (first | ((with_reducible refine gate_builtin (b := .append) (xs := #[.const (.slice none 0 0), .tmp 3]) rfl ?_); at_builtin; refine Kd.R_append_rows k86 (w0 := w) w.heap.size rfl (.const (.slice none 0 0)) (.tmp 3) 24 86 (.agg #[(.string ⟨#[]⟩), (.string ⟨#[]⟩)]) 32 rfl Try.underlying24 (by kernel_rfl) rfl (by decide) (by omega) (.slice none 0 0) [] l0 _ _ _ (fun _ => True) (fun _ => False) rfl rfl ?aO ?aR (fun _ _ h => h) (fun _ h => h.elim) ?aF ?aB ?aS ?aL ?_; (case aR => repeat (first | exact (Kd.C_below HR0.out HB.out) | (with_reducible refine Kd.C_alloc ?_ _) | (with_reducible refine Kd.C_drewN ?_ _) | (with_reducible refine Kd.C_drew ?_))); (case aB => exact (by repeat (first | (with_reducible first | exact HB.out | apply aW1 | apply aW2 | apply aW3) | exact HB.out))); (case aF => exact (fun _ _ => trivial)); (case aO => exact Kd.R_nil _ _ _ _ _); (case aS => exact (below_size (by repeat (first | (with_reducible first | exact HB.out | apply aW1 | apply aW2 | apply aW3) | exact HB.out)))); (case aL => have := LM.out; simp; omega); intro v123 w9 ho hb hg hat; rw [List.nil_append] at ho; have n2_ := aM (hb); have n3_ := aM (ho); clear HB; have HB := n2_; have HO := n3_; clear n2_ n3_ ho hb hg hat))
    go_ret
    exact ⟨_, rfl, by (with_reducible repeat (first | apply aR1 | apply aR2 | apply aR3)); exact HO.out, by repeat (first | (with_reducible first | exact HB.out | apply aW1 | apply aW2 | apply aW3) | exact HB.out)⟩
  · rw [if_neg c2] at h
    exact absurd h (by simp)

-- NOT PRINTED: function 145 (reflectlite_ValueOf)

-- NOT PRINTED: function 146 (reflectlite_Swapper)

-- NOT PRINTED: function 164 (sort_insertionSort_func)

-- NOT PRINTED: function 175 (sort_swapRange_func)

-- NOT PRINTED: function 170 (sort_rotate_func)

-- NOT PRINTED: function 165 (sort_symMerge_func)

-- NOT PRINTED: function 147 (sort_stable_func)

-- NOT PRINTED: function 148 (reflectlite_Value_Len)

-- NOT PRINTED: function 121 (sort_SliceStable)

end Go.Proofs.Ytgindocfjoalhab.PFnSets
