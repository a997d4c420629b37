/- That FnMerges answers true, out of what each of its calls gives; no conditions. -/
import Derived.Test.YtgindocfjoalhaaPFnMergesx0
import Derived.Test.YtgindocfjoalhaaPFnMergesx1
import Derived.Test.YtgindocfjoalhaaPFnMergesx2
import Derived.Test.YtgindocfjoalhaaPFnMergesx3
import Derived.Test.YtgindocfjoalhaaPFnMergesx4
import Derived.Test.YtgindocfjoalhaaPFnMergesx5
import Derived.Test.YtgindocfjoalhaaPFnMergesx6
import Derived.Test.YtgindocfjoalhaaPFnMergesx7
namespace Go.Proofs.Ytgindocfjoalhaa.PFnMerges
open Go.RowKit Go.Proofs.YtgindocfjoalhaaW.PrintWords Go.Proofs.YtgindocfjoalhaaW.PrintLast Go.Proofs.YtgindocfjoalhaaW.PrintMore
attribute [local go_sem] max2_int min2_int max_two min_two max_three min_three max_four min_four   -- for this text's walks alone
set_option linter.unusedVariables false
set_option linter.unusedSimpArgs false

/-- What is told of the world stays told where only new blocks come up. -/
structure Gs (Φ : World → Prop) (W : World) : Prop where
  at_ : Φ W
  st : ∀ {V V' : World}, Below V.heap.size V V' → Φ V → Φ V'
theorem Gs.go {Φ : World → Prop} {W W' : World} (h : Gs Φ W) (hb : Below W.heap.size W W') : Gs Φ W' := ⟨h.st hb h.at_, h.st⟩
theorem Gs.add {Φ Ψ : World → Prop} {W : World} (h : Gs Φ W) (k : Gs Ψ W) : Gs (fun w => Φ w ∧ Ψ w) W := ⟨⟨h.at_, k.at_⟩, fun hb hp => ⟨h.st hb hp.1, k.st hb hp.2⟩⟩
theorem Gs.left {Φ Ψ : World → Prop} {W : World} (h : Gs Φ W) (hd : ∀ {V V' : World}, Below V.heap.size V V' → Ψ V → Ψ V') (hk : ∀ w, Φ w → Ψ w) : Gs Ψ W := ⟨hk W h.at_, hd⟩
theorem Gs.below (w : World) : Gs (fun W => Below w.heap.size w W) w := ⟨Below.refl _ _, fun hb h => below_step h hb⟩
theorem Gs.cell {a : Addr} {v : Value} {W : World} (h : W.cell? a = some v) : Gs (fun W => W.cell? a = some v) W := ⟨h, fun hb h => pw_cell_below hb h⟩
theorem Gs.row {α : Type} {d : Kd α} {A : Option Addr} {n : Nat} {xs : List α} {W : World} (h : d.C W A n xs) : Gs (fun W => d.C W A n xs) W := ⟨h, fun hb h => Kd.C_below h hb⟩
def box4 (g : Nat) (b0 b1 b2 b3 : Value) (w : World) : Prop := w.cell? ⟨g, 0, none⟩ = some b0 ∧ w.cell? ⟨g, 1, none⟩ = some b1 ∧ w.cell? ⟨g, 2, none⟩ = some b2 ∧ w.cell? ⟨g, 3, none⟩ = some b3
theorem Gs.ofBox4 {g : Nat} {t : TypeId} {b0 b1 b2 b3 : Value} {W : World} (h : W.heap[g]? = some (.cells #[b0, b1, b2, b3] t (0, 0))) : Gs (box4 g b0 b1 b2 b3) W :=
  ⟨⟨(blk_cell h 0).trans rfl, (blk_cell h 1).trans rfl, (blk_cell h 2).trans rfl, (blk_cell h 3).trans rfl⟩, fun hb h => ⟨pw_cell_below hb h.1, pw_cell_below hb h.2.1, pw_cell_below hb h.2.2.1, pw_cell_below hb h.2.2.2⟩⟩
theorem set4_blk {W : World} {g : Nat} {t : TypeId} {c0 c1 c2 c3 b0 b1 b2 b3 : Value} (h : W.heap[g]? = some (.cells #[c0, c1, c2, c3] t (0, 0))) :
    ((((W.setCell ⟨g, 0, none⟩ b0).setCell ⟨g, 1, none⟩ b1).setCell ⟨g, 2, none⟩ b2).setCell ⟨g, 3, none⟩ b3).heap[g]? = some (.cells #[b0, b1, b2, b3] t (0, 0)) :=
  blk_put (blk_put (blk_put (blk_put h 0 b0 rfl) 1 b1 rfl) 2 b2 rfl) 3 b3 rfl
theorem set4_far {W : World} {g k : Nat} {o : Obj} {b0 b1 b2 b3 : Value} (h : W.heap[k]? = some o) (hk : k ≠ g) :
    ((((W.setCell ⟨g, 0, none⟩ b0).setCell ⟨g, 1, none⟩ b1).setCell ⟨g, 2, none⟩ b2).setCell ⟨g, 3, none⟩ b3).heap[k]? = some o :=
  (Below.heap_setCell _ ⟨g, 3, none⟩ b3 k hk).trans ((Below.heap_setCell _ ⟨g, 2, none⟩ b2 k hk).trans ((Below.heap_setCell _ ⟨g, 1, none⟩ b1 k hk).trans ((Below.heap_setCell _ ⟨g, 0, none⟩ b0 k hk).trans h)))
theorem set4_below {V W : World} {g : Nat} {b0 b1 b2 b3 : Value} (h : Below V.heap.size V W) (hg : V.heap.size ≤ g) :
    Below V.heap.size V ((((W.setCell ⟨g, 0, none⟩ b0).setCell ⟨g, 1, none⟩ b1).setCell ⟨g, 2, none⟩ b2).setCell ⟨g, 3, none⟩ b3) :=
  below_set (below_set (below_set (below_set h hg) hg) hg) hg
/-- A variable of four cells, made and written. -/
theorem Gs.put4 {Φ : World → Prop} {V W : World} {g : Nat} {t : TypeId} {c0 c1 c2 c3 : Value} (b0 b1 b2 b3 : Value) (G : Gs Φ V) (hb : Aside0 (Below V.heap.size V W)) (hg : Aside0 (g = V.heap.size)) (hx : Aside0 (W.heap[g]? = some (.cells #[c0, c1, c2, c3] t (0, 0)))) :
    Gs (fun w => Φ w ∧ box4 g b0 b1 b2 b3 w) ((((W.setCell ⟨g, 0, none⟩ b0).setCell ⟨g, 1, none⟩ b1).setCell ⟨g, 2, none⟩ b2).setCell ⟨g, 3, none⟩ b3) :=
  (G.go (set4_below hb.out (Nat.le_of_eq hg.out.symm))).add (Gs.ofBox4 (set4_blk hx.out))
/-- Two variables of four cells, made, then written. -/
theorem Gs.put44 {Φ : World → Prop} {V W X : World} {g g' : Nat} {t t' : TypeId} {c0 c1 c2 c3 c0' c1' c2' c3' : Value} (b0 b1 b2 b3 b0' b1' b2' b3' : Value) (G : Gs Φ V) (hb : Aside0 (Below V.heap.size V W)) (hg : Aside0 (g = V.heap.size)) (hx : Aside0 (W.heap[g]? = some (.cells #[c0, c1, c2, c3] t (0, 0))))
    (hb' : Aside0 (Below W.heap.size W X)) (hg' : Aside0 (g' = W.heap.size)) (hx' : Aside0 (X.heap[g']? = some (.cells #[c0', c1', c2', c3'] t' (0, 0)))) :
    Gs (fun w => (Φ w ∧ box4 g b0 b1 b2 b3 w) ∧ box4 g' b0' b1' b2' b3' w) ((((((((X.setCell ⟨g, 0, none⟩ b0).setCell ⟨g, 1, none⟩ b1).setCell ⟨g, 2, none⟩ b2).setCell ⟨g, 3, none⟩ b3).setCell ⟨g', 0, none⟩ b0').setCell ⟨g', 1, none⟩ b1').setCell ⟨g', 2, none⟩ b2').setCell ⟨g', 3, none⟩ b3') := by
  have hlt := blk_lt hx.out
  have hne : g ≠ g' := by rw [hg'.out]; omega
  have e1 : V.heap.size ≤ g := Nat.le_of_eq hg.out.symm
  have e2 : V.heap.size ≤ g' := by rw [hg'.out]; exact hb.out.size
  exact ((G.go (set4_below (set4_below (below_step hb.out hb'.out) e1) e2)).add (Gs.ofBox4 (set4_far (set4_blk (blk_below hx.out hb'.out)) hne))).add (Gs.ofBox4 (set4_blk (set4_far hx'.out (Ne.symm hne))))
section
open Go.Proofs.YtgindocfjoalhaaW.PrintLast
variable {P : Program} {ops : Array Oper} {Q : Exit → Act → World → Prop} {Φ : World → Prop} {n m fuel : Nat} {a : Act} {w : World} {T : Bool × List (List Nat × List Nat)} {B : List Nat}
theorem bz_nil (n : Nat) : Array.replicate n false = bz n 0 := by
  unfold bz
  rw [List.map_eq_replicate_iff.2 (fun x _ => Nat.zero_testBit x)]
  simp
/-- A region that draws its order, at its head. -/
theorem reg {id : Nat} (G : Gs Φ w) (hm : P.follows .mixedOrders = true) (hn : ops.size = n) (hT : rtab .any ops = T) (hB : waitsOk T.2 B = true)
    (h : ∀ W, Below w.heap.size w W → Gs Φ W → Aside0 (rtab .any ops = T) → Aside0 (waitsOk T.2 B = true) → wpAnyLast P .any ops Q Φ [] n (bz n 0) a W) : (Code.region id ops true).wp P Q a w :=
  start_ (bz n 0) hm hn (bz_nil n) (G.go (below_drew (Below.refl _ _))).at_ (fun _ => h _ (below_drew (Below.refl _ _)) (G.go (below_drew (Below.refl _ _))) ⟨hT⟩ ⟨hB⟩)
/-- A call in such a region. -/
theorem rc {oi : Oper} (i : Nat) (t : Tmp) (m' : Nat) (HT : Aside0 (rtab .any ops = T)) (hi : ops[i]? = some oi) (hN : oi.dst = some t) (hc : (readyT T.2 (bz n m).toList == [i] && (bz n m).toList.set i true == (bz n m').toList) = true)
    {f : FuncId} {fn : Func} {ars : Array Operand} {ts : Array TypeId} (hf : P.funcs[f]? = some fn) (hname : (fn.name == "runtime.NumGoroutine") = false) (hb : fn.body.isSome = true) (hop : oi.op = .call { callee := .value (.func f), args := ars, argTypes := ts }) (args : Array Value)
    (hw : Region.wanted oi (yielded ops a.tmps) = true) (hargs : ars.map a.eval = args)
    (h : Calls P f args w fun e w' => ∃ v, e = .returned v ∧ Φ w' ∧ ∀ a', a.put (some t) v = a' → wpAnyLast P .any ops Q Φ [] fuel (bz n m') a' w') : wpAnyLast P .any ops Q Φ [] (fuel + 1) (bz n m) a w := by
  refine one_ (bz n m') hi hN (one_of HT.out hc) (by simp) (fun K hK => ?_)
  refine goes_ hf hname hb args hw hN hop hargs (h.mono fun e w' hh => ?_)
  obtain ⟨v, he, hp, hr⟩ := hh
  exact ⟨v, he, hK.out _ _ hp (fun _ => hr _ rfl)⟩
end
def laws_FnMerges.T6 : Bool × List (List Nat × List Nat) := (true, [([], []), ([], []), ([], []), ([1, 2], [1, 2]), ([0, 3, 3], [0, 3]), ([4], [4]), ([5, 4], [5]), ([6], [6]), ([6], [6]), ([7, 8, 6, 6], [6, 7, 8]), ([6], [6]), ([6], [6]), ([10, 11, 9, 6], [6, 10, 11]), ([9, 12, 6], [6, 9, 12]), ([6, 13], [6, 13]), ([14, 12], [14]), ([15], [15]), ([15], [15]), ([16, 17, 15, 15], [15, 16, 17]), ([15], [15]), ([15], [15]), ([19, 20, 18, 15], [15, 19, 20]), ([18, 21, 15], [15, 18, 21]), ([15, 22], [15, 22])])
def laws_FnMerges.B6 : List Nat := [0, 0, 0, 6, 15, 31, 63, 127, 127, 511, 127, 127, 4095, 8191, 16383, 32767, 65535, 65535, 262143, 65535, 65535, 2097151, 4194303, 8388607]
theorem laws_FnMerges.tab6 : rtab .any (opsOf Try.f3 6) = laws_FnMerges.T6 := by kernel_rfl
theorem laws_FnMerges.bits6 : waitsOk laws_FnMerges.T6.2 laws_FnMerges.B6 = true := by kernel_rfl
def laws_FnMerges.T8 : Bool × List (List Nat × List Nat) := (true, [([], []), ([0], [0]), ([], []), ([2], [2]), ([1, 3], [1, 3]), ([4], [4]), ([5], [5]), ([6, 5], [5, 6]), ([5], [5]), ([8, 5], [5, 8]), ([7, 9, 5], [5, 7, 9]), ([5, 10], [5, 10]), ([11, 5], [11]), ([12], [12]), ([13, 12], [12, 13]), ([12], [12]), ([15, 12], [12, 15]), ([14, 16, 12, 12], [12, 14, 16]), ([12, 17], [12, 17]), ([18, 17], [18]), ([19], [19]), ([20, 19], [19, 20]), ([19], [19]), ([22, 19], [19, 22]), ([21, 23, 19], [19, 21, 23]), ([19, 24], [19, 24]), ([25, 19], [25]), ([26], [26]), ([26], [26]), ([27, 28, 26, 26], [26, 27, 28]), ([29, 29, 26], [26, 29]), ([30], [30]), ([31, 30], [30, 31]), ([30], [30]), ([33, 30], [30, 33]), ([32, 34, 30], [30, 32, 34]), ([30, 35, 26], [26, 30, 35]), ([26, 36], [26, 36]), ([37, 30], [37]), ([38], [38]), ([38], [38]), ([39, 40, 38, 38], [38, 39, 40]), ([38], [38]), ([41, 42, 41, 38], [38, 41, 42]), ([38, 43], [38, 43]), ([44, 43], [44]), ([45], [45]), ([45], [45]), ([46, 47, 45, 45], [45, 46, 47]), ([45], [45]), ([48, 49, 48, 45], [45, 48, 49]), ([45, 50], [45, 50]), ([51, 50], [51]), ([52], [52]), ([53, 52, 52], [52, 53]), ([54, 52], [52, 54]), ([55, 54, 52], [52, 55]), ([56], [56]), ([57, 56, 56], [56, 57]), ([58, 56], [56, 58]), ([56, 59, 52], [52, 56, 59]), ([60, 58, 52], [52, 60]), ([61], [61]), ([62, 61, 61], [61, 62]), ([61, 63, 52], [52, 61, 63]), ([52, 64], [52, 64]), ([65, 63, 0, 1, 2, 3, 4, 5, 6, 7, 8, 9, 10, 11, 12, 13, 14, 15, 16, 17, 18, 19, 20, 21, 22, 23, 24, 25, 26, 27, 28, 29, 30, 31, 32, 33, 34, 35, 36, 37, 38, 39, 40, 41, 42, 43, 44, 45, 46, 47, 48, 49, 50, 51, 52, 53, 54, 55, 56, 57, 58, 59, 60, 61, 62, 63, 64, 65], [65])])
def laws_FnMerges.B8 : List Nat := [0, 1, 0, 4, 15, 31, 63, 127, 63, 319, 1023, 2047, 4095, 8191, 16383, 8191, 40959, 131071, 262143, 524287, 1048575, 2097151, 1048575, 5242879, 16777215, 33554431, 67108863, 134217727, 134217727, 536870911, 1073741823, 2147483647, 4294967295, 2147483647, 10737418239, 34359738367, 68719476735, 137438953471, 274877906943, 549755813887, 549755813887, 2199023255551, 549755813887, 8796093022207, 17592186044415, 35184372088831, 70368744177663, 70368744177663, 281474976710655, 70368744177663, 1125899906842623, 2251799813685247, 4503599627370495, 9007199254740991, 18014398509481983, 36028797018963967, 72057594037927935, 144115188075855871, 288230376151711743, 576460752303423487, 1152921504606846975, 2305843009213693951, 4611686018427387903, 9223372036854775807, 18446744073709551615, 36893488147419103231, 73786976294838206463]
theorem laws_FnMerges.tab8 : rtab .any (opsOf Try.f3 8) = laws_FnMerges.T8 := by kernel_rfl
theorem laws_FnMerges.bits8 : waitsOk laws_FnMerges.T8.2 laws_FnMerges.B8 = true := by kernel_rfl
set_option maxHeartbeats 8000000 in
set_option maxRecDepth 100000 in
theorem laws_FnMerges.way (k : Nat) (A0 : Option Addr) (c0 : Nat) (l0 : List Int) (w : World) (hr0 : Kd.C (Kd.int .u8) w A0 l0.length l0) (hc0 : l0.length ≤ c0) (la : List (S89)) (sa : Int) (ea : Int) (na : ByteArray) (lb : List (S89)) (sb : Int) (eb : Int) (nb : ByteArray) (ms : Int) (lc : List (S89)) (sc : Int) (ec : Int) (nc : ByteArray) (ld : List (S89)) (sd : Int) (ed : Int) (nd : ByteArray) (tc : Bool) (tt : Bool) (oa : Bool) (ob : Bool)
  (F1 : Aside0 (laws_big.f l0 = some false))
  (F2 : Aside0 (spec_DrawMerge.f k l0 = some (la, sa, ea, na, lb, sb, eb, nb)))
  (F3 : Aside0 (impl_Merge.f la sa ea na lb sb eb nb = some (lb, ms, eb, nb)))
  (F4 : Aside0 (spec_DrawTouch.f k l0 = some (lc, sc, ec, nc, ld, sd, ed, nd)))
  (F5 : Aside0 (spec_Merge.f la sa ea na lb sb eb nb = some (lb, ms, eb, nb)))
  (F6 : Aside0 (impl_SameAlarm.f k lb ms eb nb lb ms eb nb = some true))
  (F7 : Aside0 (impl_Touch.f lc sc ec nc ld sd ed nd = some tc))
  (F8 : Aside0 (spec_Touch.f lc sc ec nc ld sd ed nd = some tc))
  (F9 : Aside0 (impl_Touch.f ld sd ed nd lc sc ec nc = some tc))
  (F10 : Aside0 (impl_SameSet.f k lb lb = some true))
  (F11 : Aside0 (impl_Touch.f la sa ea na lb sb eb nb = some tt))
  (F12 : Aside0 (impl_Merge.f la sa ea na lb ms eb nb = some (lb, ms, eb, nb)))
  (F13 : Aside0 (impl_Merge.f lb sb eb nb lb sb eb nb = some (lb, sb, eb, nb)))
  (F14 : Aside0 (impl_SameAlarm.f k lb sb eb nb lb sb eb nb = some true))
  (F15 : Aside0 (impl_AlarmOk.f k la sa ea na = some oa))
  (F16 : Aside0 (impl_AlarmOk.f k lb sb eb nb = some ob))
  (F17 : Aside0 (oa = true → ob = true → impl_AlarmOk.f k lb ms eb nb = some true))
  (K0 : Aside0 ((tc != tc) = false))
  (K1 : Aside0 ((eb == eb) = true))
  (K2 : Aside0 ((nb.toList == nb.toList) = true))
  (K3 : Aside0 (decide (ms ≤ sb) = true))
  (K4 : Aside0 (tt = false → (ms == sb) = true)) :
  Calls Try.prog 3 #[.slice A0 l0.length c0] w fun e w' => e = .returned (.bool true) ∧ Below w.heap.size w w' := by
 have HC0 := aM hc0
 have G := (Gs.below w).add (Gs.row hr0)
 clear hc0 hr0
 go_enter Try.func3, Try.ntmps3
 go_upto_region 3 with (first | ((with_reducible refine gate_callee (f := 9) rfl ?_); refine goesL_ (some 9) rfl rfl Try.func9 (by kernel_rfl) rfl #[.slice A0 l0.length c0] rfl (by (try simp only [List.map_toArray, List.map_cons, List.map_nil]); first | done | rfl) ?_; refine (laws_big.calls _ _ l0 false _ G.at_.2 HC0.out F1.out).mono ?_; rintro e w1 ⟨rfl, hb⟩; refine ⟨_, rfl, ?_⟩; have G1 := (G.go hb.below); clear G hb; have G := G1; clear G1))
 go_upto_region 4 with (first | ((with_reducible refine gate_callee (f := 10) rfl ?_); refine goesL_ (some 12) rfl rfl Try.func10 (by kernel_rfl) rfl #[.slice A0 l0.length c0] rfl (by (try simp only [List.map_toArray, List.map_cons, List.map_nil]); first | done | rfl) ?_; refine (spec_DrawMerge.calls k _ _ l0 la sa ea na lb sb eb nb _ G.at_.2 HC0.out F2.out).mono ?_; rintro e w1 ⟨v12_0, v12_1, rfl, ho12_0, ho12_1, hb⟩; refine ⟨_, rfl, ?_⟩; obtain ⟨A12_0, c12_0, rfl, hcA12_0, hCA12_0⟩ := Kd.R_reads ho12_0; clear ho12_0; have HCA12_0 := aM hcA12_0; clear hcA12_0; obtain ⟨A12_1, c12_1, rfl, hcA12_1, hCA12_1⟩ := Kd.R_reads ho12_1; clear ho12_1; have HCA12_1 := aM hcA12_1; clear hcA12_1; have G1 := (((G.go hb).add (Gs.row hCA12_0)).add (Gs.row hCA12_1)); clear G hb hCA12_0 hCA12_1; have G := G1; clear G1) | ((with_reducible refine gate_dst (N := 3) rfl ?_); refine box_event ?hg (N := 3) ?hd (cs := #[.slice none 0 0, .int .i64 0, .int .i64 0, .string (⟨#[]⟩ : ByteArray)]) (t := 26) ?hr ?_; (case hd => rfl); (case hg => rfl); (case hr => first | (go_simp; done) | (go_simp; rfl)); intro g3 hg w2 hbox hb; have HB_g3 := aM hb; have HE_g3 := aM hg; have BK_g3 := aM hbox; clear hb hg hbox) | ((with_reducible refine gate_dst (N := 4) rfl ?_); refine box_event ?hg (N := 4) ?hd (cs := #[.slice none 0 0, .int .i64 0, .int .i64 0, .string (⟨#[]⟩ : ByteArray)]) (t := 26) ?hr ?_; (case hd => rfl); (case hg => rfl); (case hr => first | (go_simp; done) | (go_simp; rfl)); intro g4 hg w2 hbox hb; have HB_g4 := aM hb; have HE_g4 := aM hg; have BK_g4 := aM hbox; clear hb hg hbox; have zg3_0 := cz4_0 ⟨blk_below (BK_g3.out) HB_g4.out⟩; have yg3_0 := blk_frozen (blk_below (BK_g3.out) HB_g4.out) 0; have zg3_1 := cz4_1 ⟨blk_below (BK_g3.out) HB_g4.out⟩; have yg3_1 := blk_frozen (blk_below (BK_g3.out) HB_g4.out) 1; have zg3_2 := cz4_2 ⟨blk_below (BK_g3.out) HB_g4.out⟩; have yg3_2 := blk_frozen (blk_below (BK_g3.out) HB_g4.out) 2; have zg3_3 := cz4_3 ⟨blk_below (BK_g3.out) HB_g4.out⟩; have yg3_3 := blk_frozen (blk_below (BK_g3.out) HB_g4.out) 3; have zg4_0 := cz4_0 ⟨BK_g4.out⟩; have yg4_0 := blk_frozen (BK_g4.out) 0; have zg4_1 := cz4_1 ⟨BK_g4.out⟩; have yg4_1 := blk_frozen (BK_g4.out) 1; have zg4_2 := cz4_2 ⟨BK_g4.out⟩; have yg4_2 := blk_frozen (BK_g4.out) 2; have zg4_3 := cz4_3 ⟨BK_g4.out⟩; have yg4_3 := blk_frozen (BK_g4.out) 3; have ng3g4 : g3 ≠ g4 := (by rw [HE_g4.out]; exact Nat.ne_of_lt (blk_lt BK_g3.out)); have ng4g3 : g4 ≠ g3 := fun h_ => ng3g4 h_.symm))
 have G1 := Gs.put44 (.slice A12_0 la.length c12_0) (.int .i64 sa) (.int .i64 ea) (.string na) (.slice A12_1 lb.length c12_1) (.int .i64 sb) (.int .i64 eb) (.string nb) G HB_g3 HE_g3 BK_g3 HB_g4 HE_g4 BK_g4
 clear G; have G := G1; clear G1
 generalize ((((((((w2.setCell ⟨g3, 0, none⟩ (.slice A12_0 la.length c12_0)).setCell ⟨g3, 1, none⟩ (.int .i64 sa)).setCell ⟨g3, 2, none⟩ (.int .i64 ea)).setCell ⟨g3, 3, none⟩ (.string na)).setCell ⟨g4, 0, none⟩ (.slice A12_1 lb.length c12_1)).setCell ⟨g4, 1, none⟩ (.int .i64 sb)).setCell ⟨g4, 2, none⟩ (.int .i64 eb)).setCell ⟨g4, 3, none⟩ (.string nb)) = w3 at G ⊢
 clear zg3_0 yg3_0 zg3_1 yg3_1 zg3_2 yg3_2 zg3_3 yg3_3 zg4_0 yg4_0 zg4_1 yg4_1 zg4_2 yg4_2 zg4_3 yg4_3 ng3g4 ng4g3
 clear HB_g4 HE_g4 BK_g4 HB_g3 HE_g3 BK_g3
 obtain ⟨zg3_0, zg3_1, zg3_2, zg3_3⟩ := G.at_.1.2
 obtain ⟨zg4_0, zg4_1, zg4_2, zg4_3⟩ := G.at_.2
 go_upto_region 5 with (first | ((with_reducible refine gate_callee (f := 11) rfl ?_); refine goesL_ (some 17) rfl rfl Try.func11 (by kernel_rfl) rfl #[.agg #[.slice A12_0 la.length c12_0, .int .i64 sa, .int .i64 ea, .string na], .agg #[.slice A12_1 lb.length c12_1, .int .i64 sb, .int .i64 eb, .string nb]] rfl (by (try simp only [List.map_toArray, List.map_cons, List.map_nil]); first | done | rfl) ?_; refine (impl_Merge.calls _ _ la sa ea na _ _ lb sb eb nb lb ms eb nb _ G.at_.1.1.1.2 HCA12_0.out G.at_.1.1.2 HCA12_1.out F3.out).mono ?_; rintro e w1 ⟨v17_0, rfl, ho17_0, hb⟩; refine ⟨_, rfl, ?_⟩; obtain ⟨A17_0, c17_0, rfl, hcA17_0, hCA17_0⟩ := Kd.R_reads ho17_0; clear ho17_0; have HCA17_0 := aM hcA17_0; clear hcA17_0; have G1 := ((G.go hb).add (Gs.row hCA17_0)); clear G hb hCA17_0; have G := G1; clear G1) | ((with_reducible refine gate_dst (N := 5) rfl ?_); refine box_event ?hg (N := 5) ?hd (cs := #[.slice none 0 0, .int .i64 0, .int .i64 0, .string (⟨#[]⟩ : ByteArray)]) (t := 26) ?hr ?_; (case hd => rfl); (case hg => rfl); (case hr => first | (go_simp; done) | (go_simp; rfl)); intro g5 hg w2 hbox hb; have HB_g5 := aM hb; have HE_g5 := aM hg; have BK_g5 := aM hbox; clear hb hg hbox; have zg5_0 := cz4_0 ⟨BK_g5.out⟩; have yg5_0 := blk_frozen (BK_g5.out) 0; have zg5_1 := cz4_1 ⟨BK_g5.out⟩; have yg5_1 := blk_frozen (BK_g5.out) 1; have zg5_2 := cz4_2 ⟨BK_g5.out⟩; have yg5_2 := blk_frozen (BK_g5.out) 2; have zg5_3 := cz4_3 ⟨BK_g5.out⟩; have yg5_3 := blk_frozen (BK_g5.out) 3))
 clear zg3_0 zg3_1 zg3_2 zg3_3 zg4_0 zg4_1 zg4_2 zg4_3
 have G1 := Gs.put4 (.slice A17_0 lb.length c17_0) (.int .i64 ms) (.int .i64 eb) (.string nb) G HB_g5 HE_g5 BK_g5
 clear G; have G := G1; clear G1
 generalize ((((w2.setCell ⟨g5, 0, none⟩ (.slice A17_0 lb.length c17_0)).setCell ⟨g5, 1, none⟩ (.int .i64 ms)).setCell ⟨g5, 2, none⟩ (.int .i64 eb)).setCell ⟨g5, 3, none⟩ (.string nb)) = w3 at G ⊢
 clear zg5_0 yg5_0 zg5_1 yg5_1 zg5_2 yg5_2 zg5_3 yg5_3
 clear HB_g5 HE_g5 BK_g5
 go_upto_region 6 with (first | ((with_reducible refine gate_callee (f := 12) rfl ?_); refine goesL_ (some 20) rfl rfl Try.func12 (by kernel_rfl) rfl #[.slice A0 l0.length c0] rfl (by (try simp only [List.map_toArray, List.map_cons, List.map_nil]); first | done | rfl) ?_; refine (spec_DrawTouch.calls k _ _ l0 lc sc ec nc ld sd ed nd _ G.at_.1.1.1.1.1.1.2 HC0.out F4.out).mono ?_; rintro e w1 ⟨v20_0, v20_1, rfl, ho20_0, ho20_1, hb⟩; refine ⟨_, rfl, ?_⟩; obtain ⟨A20_0, c20_0, rfl, hcA20_0, hCA20_0⟩ := Kd.R_reads ho20_0; clear ho20_0; have HCA20_0 := aM hcA20_0; clear hcA20_0; obtain ⟨A20_1, c20_1, rfl, hcA20_1, hCA20_1⟩ := Kd.R_reads ho20_1; clear ho20_1; have HCA20_1 := aM hcA20_1; clear hcA20_1; have G1 := (((G.go hb).add (Gs.row hCA20_0)).add (Gs.row hCA20_1)); clear G hb hCA20_0 hCA20_1; have G := G1; clear G1) | ((with_reducible refine gate_dst (N := 6) rfl ?_); refine box_event ?hg (N := 6) ?hd (cs := #[.slice none 0 0, .int .i64 0, .int .i64 0, .string (⟨#[]⟩ : ByteArray)]) (t := 26) ?hr ?_; (case hd => rfl); (case hg => rfl); (case hr => first | (go_simp; done) | (go_simp; rfl)); intro g6 hg w2 hbox hb; have HB_g6 := aM hb; have HE_g6 := aM hg; have BK_g6 := aM hbox; clear hb hg hbox) | ((with_reducible refine gate_dst (N := 7) rfl ?_); refine box_event ?hg (N := 7) ?hd (cs := #[.slice none 0 0, .int .i64 0, .int .i64 0, .string (⟨#[]⟩ : ByteArray)]) (t := 26) ?hr ?_; (case hd => rfl); (case hg => rfl); (case hr => first | (go_simp; done) | (go_simp; rfl)); intro g7 hg w2 hbox hb; have HB_g7 := aM hb; have HE_g7 := aM hg; have BK_g7 := aM hbox; clear hb hg hbox; have zg6_0 := cz4_0 ⟨blk_below (BK_g6.out) HB_g7.out⟩; have yg6_0 := blk_frozen (blk_below (BK_g6.out) HB_g7.out) 0; have zg6_1 := cz4_1 ⟨blk_below (BK_g6.out) HB_g7.out⟩; have yg6_1 := blk_frozen (blk_below (BK_g6.out) HB_g7.out) 1; have zg6_2 := cz4_2 ⟨blk_below (BK_g6.out) HB_g7.out⟩; have yg6_2 := blk_frozen (blk_below (BK_g6.out) HB_g7.out) 2; have zg6_3 := cz4_3 ⟨blk_below (BK_g6.out) HB_g7.out⟩; have yg6_3 := blk_frozen (blk_below (BK_g6.out) HB_g7.out) 3; have zg7_0 := cz4_0 ⟨BK_g7.out⟩; have yg7_0 := blk_frozen (BK_g7.out) 0; have zg7_1 := cz4_1 ⟨BK_g7.out⟩; have yg7_1 := blk_frozen (BK_g7.out) 1; have zg7_2 := cz4_2 ⟨BK_g7.out⟩; have yg7_2 := blk_frozen (BK_g7.out) 2; have zg7_3 := cz4_3 ⟨BK_g7.out⟩; have yg7_3 := blk_frozen (BK_g7.out) 3; have ng6g7 : g6 ≠ g7 := (by rw [HE_g7.out]; exact Nat.ne_of_lt (blk_lt BK_g6.out)); have ng7g6 : g7 ≠ g6 := fun h_ => ng6g7 h_.symm))
 have G1 := Gs.put44 (.slice A20_0 lc.length c20_0) (.int .i64 sc) (.int .i64 ec) (.string nc) (.slice A20_1 ld.length c20_1) (.int .i64 sd) (.int .i64 ed) (.string nd) G HB_g6 HE_g6 BK_g6 HB_g7 HE_g7 BK_g7
 clear G; have G := G1; clear G1
 generalize ((((((((w2.setCell ⟨g6, 0, none⟩ (.slice A20_0 lc.length c20_0)).setCell ⟨g6, 1, none⟩ (.int .i64 sc)).setCell ⟨g6, 2, none⟩ (.int .i64 ec)).setCell ⟨g6, 3, none⟩ (.string nc)).setCell ⟨g7, 0, none⟩ (.slice A20_1 ld.length c20_1)).setCell ⟨g7, 1, none⟩ (.int .i64 sd)).setCell ⟨g7, 2, none⟩ (.int .i64 ed)).setCell ⟨g7, 3, none⟩ (.string nd)) = w3 at G ⊢
 clear zg6_0 yg6_0 zg6_1 yg6_1 zg6_2 yg6_2 zg6_3 yg6_3 zg7_0 yg7_0 zg7_1 yg7_1 zg7_2 yg7_2 zg7_3 yg7_3 ng6g7 ng7g6
 clear HB_g7 HE_g7 BK_g7 HB_g6 HE_g6 BK_g6
 refine reg G (by kernel_rfl) rfl laws_FnMerges.tab6 laws_FnMerges.bits6 (fun wr hbr G' HT_ HW_ => ?_)
 clear G; have G := G'; clear G'
 clear hbr
 refine (tk 0 (some 23) 1 ?_ ?_ HT_ HW_ rfl rfl (by kernel_rfl) (fun _ _ _ h => h) G.at_ ?_ ?_ ?_ (tk 1 (some 24) 3 ?_ ?_ HT_ HW_ rfl rfl (by kernel_rfl) (fun _ _ _ h => h) G.at_ ?_ ?_ ?_ (tk 2 (some 25) 7 ?_ ?_ HT_ HW_ rfl rfl (by kernel_rfl) (fun _ _ _ h => h) G.at_ ?_ ?_ ?_ ?_)))
 all_goals first | (rintro w' ⟨⟨⟨⟨⟨⟨⟨⟨⟨⟨⟨-, -⟩, -⟩, -⟩, ⟨s0, s1, s2, s3⟩⟩, ⟨s4, s5, s6, s7⟩⟩, -⟩, ⟨s8, s9, s10, s11⟩⟩, -⟩, -⟩, ⟨s12, s13, s14, s15⟩⟩, ⟨s16, s17, s18, s19⟩⟩; go_simp; with_reducible rfl) | (intro w'; go_simp; with_reducible rfl) | (simp only [Act.put, List.setIfInBounds_toArray, List.set_cons_zero, List.set_cons_succ, i64_w, i32_w]; rfl) | rfl | skip
 refine rc 3 26 15 HT_ rfl rfl (by kernel_rfl) Try.func14 (by kernel_rfl) rfl rfl #[.agg #[.slice A12_0 la.length c12_0, .int .i64 sa, .int .i64 ea, .string na], .agg #[.slice A12_1 lb.length c12_1, .int .i64 sb, .int .i64 eb, .string nb]] (by rfl) (by (try simp only [List.map_toArray, List.map_cons, List.map_nil]); first | done | rfl) ?_
 refine (spec_Merge.calls _ _ la sa ea na _ _ lb sb eb nb lb ms eb nb _ G.at_.1.1.1.1.1.1.1.1.1.2 HCA12_0.out G.at_.1.1.1.1.1.1.1.1.2 HCA12_1.out F5.out).mono ?_
 rintro e w1 ⟨v26_0, rfl, ho26_0, hb⟩
 obtain ⟨A26_0, c26_0, rfl, hcA26_0, hCA26_0⟩ := Kd.R_reads ho26_0
 clear ho26_0; have HCA26_0 := aM hcA26_0; clear hcA26_0
 have XA26_0 := Gs.row hCA26_0; clear hCA26_0
 replace G := G.go hb; clear hb
 refine ⟨_, rfl, G.at_, ?_⟩; intro a' ha; simp only [Act.put, List.setIfInBounds_toArray, List.set_cons_zero, List.set_cons_succ, i64_w, i32_w] at ha; subst ha
 refine rc 4 27 31 HT_ rfl rfl (by kernel_rfl) Try.func13 (by kernel_rfl) rfl rfl #[.agg #[.slice A17_0 lb.length c17_0, .int .i64 ms, .int .i64 eb, .string nb], .agg #[.slice A26_0 lb.length c26_0, .int .i64 ms, .int .i64 eb, .string nb]] (by rfl) (by (try simp only [List.map_toArray, List.map_cons, List.map_nil]); first | done | rfl) ?_
 refine (impl_SameAlarm.calls k _ _ lb ms eb nb _ _ lb ms eb nb true _ G.at_.1.1.1.1.1.2 HCA17_0.out XA26_0.at_ HCA26_0.out F6.out).mono ?_
 rintro e w1 ⟨rfl, hb⟩
 replace XA26_0 := XA26_0.go hb
 replace G := G.go hb; clear hb
 refine ⟨_, rfl, G.at_, ?_⟩; intro a' ha; simp only [Act.put, List.setIfInBounds_toArray, List.set_cons_zero, List.set_cons_succ, i64_w, i32_w] at ha; subst ha
 refine (pu 5 (some 28) 63 ?_ ?_ HT_ rfl rfl (by kernel_rfl) (fun _ _ _ h => h) ?_ ?_ ?_ (pu 6 (some 29) 127 ?_ ?_ HT_ rfl rfl (by kernel_rfl) (fun _ _ _ h => h) ?_ ?_ ?_ (tk 7 (some 30) 255 ?_ ?_ HT_ HW_ rfl rfl (by kernel_rfl) (fun _ _ _ h => h) G.at_ ?_ ?_ ?_ (tk 8 (some 31) 511 ?_ ?_ HT_ HW_ rfl rfl (by kernel_rfl) (fun _ _ _ h => h) G.at_ ?_ ?_ ?_ (tk 10 (some 33) 1535 ?_ ?_ HT_ HW_ rfl rfl (by kernel_rfl) (fun _ _ _ h => h) G.at_ ?_ ?_ ?_ (tk 11 (some 34) 3583 ?_ ?_ HT_ HW_ rfl rfl (by kernel_rfl) (fun _ _ _ h => h) G.at_ ?_ ?_ ?_ ?_))))))
 all_goals first | (rintro w' ⟨⟨⟨⟨⟨⟨⟨⟨⟨⟨⟨-, -⟩, -⟩, -⟩, ⟨s0, s1, s2, s3⟩⟩, ⟨s4, s5, s6, s7⟩⟩, -⟩, ⟨s8, s9, s10, s11⟩⟩, -⟩, -⟩, ⟨s12, s13, s14, s15⟩⟩, ⟨s16, s17, s18, s19⟩⟩; go_simp; with_reducible rfl) | (intro w'; go_simp; with_reducible rfl) | (simp only [Act.put, List.setIfInBounds_toArray, List.set_cons_zero, List.set_cons_succ, i64_w, i32_w]; rfl) | rfl | skip
 refine rc 9 32 4095 HT_ rfl rfl (by kernel_rfl) Try.func15 (by kernel_rfl) rfl rfl #[.agg #[.slice A20_0 lc.length c20_0, .int .i64 sc, .int .i64 ec, .string nc], .agg #[.slice A20_1 ld.length c20_1, .int .i64 sd, .int .i64 ed, .string nd]] (by rfl) (by (try simp only [List.map_toArray, List.map_cons, List.map_nil]); first | done | rfl) ?_
 refine (impl_Touch.calls _ _ lc sc ec nc _ _ ld sd ed nd tc _ G.at_.1.1.1.2 HCA20_0.out G.at_.1.1.2 HCA20_1.out F7.out).mono ?_
 rintro e w1 ⟨rfl, hb⟩
 replace XA26_0 := XA26_0.go hb
 replace G := G.go hb; clear hb
 refine ⟨_, rfl, G.at_, ?_⟩; intro a' ha; simp only [Act.put, List.setIfInBounds_toArray, List.set_cons_zero, List.set_cons_succ, i64_w, i32_w] at ha; subst ha
 refine rc 12 35 8191 HT_ rfl rfl (by kernel_rfl) Try.func16 (by kernel_rfl) rfl rfl #[.agg #[.slice A20_0 lc.length c20_0, .int .i64 sc, .int .i64 ec, .string nc], .agg #[.slice A20_1 ld.length c20_1, .int .i64 sd, .int .i64 ed, .string nd]] (by rfl) (by (try simp only [List.map_toArray, List.map_cons, List.map_nil]); first | done | rfl) ?_
 refine (spec_Touch.calls _ _ lc sc ec nc _ _ ld sd ed nd tc _ G.at_.1.1.1.2 HCA20_0.out G.at_.1.1.2 HCA20_1.out F8.out).mono ?_
 rintro e w1 ⟨rfl, hb⟩
 replace XA26_0 := XA26_0.go hb
 replace G := G.go hb; clear hb
 refine ⟨_, rfl, G.at_, ?_⟩; intro a' ha; simp only [Act.put, List.setIfInBounds_toArray, List.set_cons_zero, List.set_cons_succ, i64_w, i32_w] at ha; subst ha
 have hk0_ := K0.out
 refine (pu 13 (some 36) 16383 ?_ ?_ HT_ rfl rfl (by kernel_rfl) (fun _ _ _ h => h) ?_ ?_ ?_ (pu 14 (some 37) 32767 ?_ ?_ HT_ rfl rfl (by kernel_rfl) (fun _ _ _ h => h) ?_ ?_ ?_ (pu 15 (some 38) 65535 ?_ ?_ HT_ rfl rfl (by kernel_rfl) (fun _ _ _ h => h) ?_ ?_ ?_ (tk 16 (some 39) 131071 ?_ ?_ HT_ HW_ rfl rfl (by kernel_rfl) (fun _ _ _ h => h) G.at_ ?_ ?_ ?_ (tk 17 (some 40) 262143 ?_ ?_ HT_ HW_ rfl rfl (by kernel_rfl) (fun _ _ _ h => h) G.at_ ?_ ?_ ?_ (tk 19 (some 42) 786431 ?_ ?_ HT_ HW_ rfl rfl (by kernel_rfl) (fun _ _ _ h => h) G.at_ ?_ ?_ ?_ (tk 20 (some 43) 1835007 ?_ ?_ HT_ HW_ rfl rfl (by kernel_rfl) (fun _ _ _ h => h) G.at_ ?_ ?_ ?_ ?_)))))))
 all_goals first | (rintro w' ⟨⟨⟨⟨⟨⟨⟨⟨⟨⟨⟨-, -⟩, -⟩, -⟩, ⟨s0, s1, s2, s3⟩⟩, ⟨s4, s5, s6, s7⟩⟩, -⟩, ⟨s8, s9, s10, s11⟩⟩, -⟩, -⟩, ⟨s12, s13, s14, s15⟩⟩, ⟨s16, s17, s18, s19⟩⟩; go_simp; with_reducible rfl) | (intro w'; go_simp; with_reducible rfl) | (simp only [Act.put, List.setIfInBounds_toArray, List.set_cons_zero, List.set_cons_succ, i64_w, i32_w]; rfl) | rfl | skip
 refine rc 18 41 2097151 HT_ rfl rfl (by kernel_rfl) Try.func15 (by kernel_rfl) rfl rfl #[.agg #[.slice A20_0 lc.length c20_0, .int .i64 sc, .int .i64 ec, .string nc], .agg #[.slice A20_1 ld.length c20_1, .int .i64 sd, .int .i64 ed, .string nd]] (by rfl) (by (try simp only [List.map_toArray, List.map_cons, List.map_nil]); first | done | rfl) ?_
 refine (impl_Touch.calls _ _ lc sc ec nc _ _ ld sd ed nd tc _ G.at_.1.1.1.2 HCA20_0.out G.at_.1.1.2 HCA20_1.out F7.out).mono ?_
 rintro e w1 ⟨rfl, hb⟩
 replace XA26_0 := XA26_0.go hb
 replace G := G.go hb; clear hb
 refine ⟨_, rfl, G.at_, ?_⟩; intro a' ha; simp only [Act.put, List.setIfInBounds_toArray, List.set_cons_zero, List.set_cons_succ, i64_w, i32_w] at ha; subst ha
 refine rc 21 44 4194303 HT_ rfl rfl (by kernel_rfl) Try.func15 (by kernel_rfl) rfl rfl #[.agg #[.slice A20_1 ld.length c20_1, .int .i64 sd, .int .i64 ed, .string nd], .agg #[.slice A20_0 lc.length c20_0, .int .i64 sc, .int .i64 ec, .string nc]] (by rfl) (by (try simp only [List.map_toArray, List.map_cons, List.map_nil]); first | done | rfl) ?_
 refine (impl_Touch.calls _ _ ld sd ed nd _ _ lc sc ec nc tc _ G.at_.1.1.2 HCA20_1.out G.at_.1.1.1.2 HCA20_0.out F9.out).mono ?_
 rintro e w1 ⟨rfl, hb⟩
 replace XA26_0 := XA26_0.go hb
 replace G := G.go hb; clear hb
 refine ⟨_, rfl, G.at_, ?_⟩; intro a' ha; simp only [Act.put, List.setIfInBounds_toArray, List.set_cons_zero, List.set_cons_succ, i64_w, i32_w] at ha; subst ha
 have hk0_ := K0.out
 refine (pu 22 (some 45) 8388607 ?_ ?_ HT_ rfl rfl (by kernel_rfl) (fun _ _ _ h => h) ?_ ?_ ?_ (pu 23 (some 46) 16777215 ?_ ?_ HT_ rfl rfl (by kernel_rfl) (fun _ _ _ h => h) ?_ ?_ ?_ ?_))
 all_goals first | (rintro w' ⟨⟨⟨⟨⟨⟨⟨⟨⟨⟨⟨-, -⟩, -⟩, -⟩, ⟨s0, s1, s2, s3⟩⟩, ⟨s4, s5, s6, s7⟩⟩, -⟩, ⟨s8, s9, s10, s11⟩⟩, -⟩, -⟩, ⟨s12, s13, s14, s15⟩⟩, ⟨s16, s17, s18, s19⟩⟩; go_simp; with_reducible rfl) | (intro w'; go_simp; with_reducible rfl) | (simp only [Act.put, List.setIfInBounds_toArray, List.set_cons_zero, List.set_cons_succ, i64_w, i32_w]; rfl) | rfl | skip
 refine done_ (done_of HT_.out (by kernel_rfl)) ?_
 go_upto_region 8 with (fail)
 refine reg G (by kernel_rfl) rfl laws_FnMerges.tab8 laws_FnMerges.bits8 (fun wr hbr G' HT_ HW_ => ?_)
 clear G; have G := G'; clear G'
 replace XA26_0 := XA26_0.go hbr
 clear hbr
 have hk1_ := K1.out
 have hk2_ := K2.out
 refine (pu 0 (some 47) 1 ?_ ?_ HT_ rfl rfl (by kernel_rfl) (fun _ _ _ h => h) ?_ ?_ ?_ (tk 1 (some 48) 3 ?_ ?_ HT_ HW_ rfl rfl (by kernel_rfl) (fun _ _ _ h => h) G.at_ ?_ ?_ ?_ (pu 2 (some 49) 7 ?_ ?_ HT_ rfl rfl (by kernel_rfl) (fun _ _ _ h => h) ?_ ?_ ?_ (tk 3 (some 50) 15 ?_ ?_ HT_ HW_ rfl rfl (by kernel_rfl) (fun _ _ _ h => h) G.at_ ?_ ?_ ?_ (pu 4 (some 51) 31 ?_ ?_ HT_ rfl rfl (by kernel_rfl) (fun _ _ _ h => h) ?_ ?_ ?_ (pu 5 (some 52) 63 ?_ ?_ HT_ rfl rfl (by kernel_rfl) (fun _ _ _ h => h) ?_ ?_ ?_ (pu 6 (some 53) 127 ?_ ?_ HT_ rfl rfl (by kernel_rfl) (fun _ _ _ h => h) ?_ ?_ ?_ (tk 7 (some 54) 255 ?_ ?_ HT_ HW_ rfl rfl (by kernel_rfl) (fun _ _ _ h => h) G.at_ ?_ ?_ ?_ (pu 8 (some 55) 511 ?_ ?_ HT_ rfl rfl (by kernel_rfl) (fun _ _ _ h => h) ?_ ?_ ?_ (tk 9 (some 56) 1023 ?_ ?_ HT_ HW_ rfl rfl (by kernel_rfl) (fun _ _ _ h => h) G.at_ ?_ ?_ ?_ (pu 10 (some 57) 2047 ?_ ?_ HT_ rfl rfl (by kernel_rfl) (fun _ _ _ h => h) ?_ ?_ ?_ (pu 11 (some 58) 4095 ?_ ?_ HT_ rfl rfl (by kernel_rfl) (fun _ _ _ h => h) ?_ ?_ ?_ (pu 12 (some 59) 8191 ?_ ?_ HT_ rfl rfl (by kernel_rfl) (fun _ _ _ h => h) ?_ ?_ ?_ (pu 13 (some 60) 16383 ?_ ?_ HT_ rfl rfl (by kernel_rfl) (fun _ _ _ h => h) ?_ ?_ ?_ (tk 14 (some 61) 32767 ?_ ?_ HT_ HW_ rfl rfl (by kernel_rfl) (fun _ _ _ h => h) G.at_ ?_ ?_ ?_ (pu 15 (some 62) 65535 ?_ ?_ HT_ rfl rfl (by kernel_rfl) (fun _ _ _ h => h) ?_ ?_ ?_ (tk 16 (some 63) 131071 ?_ ?_ HT_ HW_ rfl rfl (by kernel_rfl) (fun _ _ _ h => h) G.at_ ?_ ?_ ?_ ?_)))))))))))))))))
 all_goals first | (rintro w' ⟨⟨⟨⟨⟨⟨⟨⟨⟨⟨⟨-, -⟩, -⟩, -⟩, ⟨s0, s1, s2, s3⟩⟩, ⟨s4, s5, s6, s7⟩⟩, -⟩, ⟨s8, s9, s10, s11⟩⟩, -⟩, -⟩, ⟨s12, s13, s14, s15⟩⟩, ⟨s16, s17, s18, s19⟩⟩; go_simp; with_reducible rfl) | (intro w'; go_simp; with_reducible rfl) | (simp only [Act.put, List.setIfInBounds_toArray, List.set_cons_zero, List.set_cons_succ, i64_w, i32_w]; rfl) | rfl | skip
 refine rc 17 64 262143 HT_ rfl rfl (by kernel_rfl) Try.func17 (by kernel_rfl) rfl rfl #[.slice A17_0 lb.length c17_0, .slice A12_1 lb.length c12_1] (by rfl) (by (try simp only [List.map_toArray, List.map_cons, List.map_nil]); first | done | rfl) ?_
 refine (impl_SameSet.calls k _ _ lb _ _ lb true _ G.at_.1.1.1.1.1.2 HCA17_0.out G.at_.1.1.1.1.1.1.1.1.2 HCA12_1.out F10.out).mono ?_
 rintro e w1 ⟨rfl, hb⟩
 replace XA26_0 := XA26_0.go hb.below
 replace G := G.go hb.below; clear hb
 refine ⟨_, rfl, G.at_, ?_⟩; intro a' ha; simp only [Act.put, List.setIfInBounds_toArray, List.set_cons_zero, List.set_cons_succ, i64_w, i32_w] at ha; subst ha
 have hk3_ := K3.out
 refine (pu 18 (some 65) 524287 ?_ ?_ HT_ rfl rfl (by kernel_rfl) (fun _ _ _ h => h) ?_ ?_ ?_ (pu 19 (some 66) 1048575 ?_ ?_ HT_ rfl rfl (by kernel_rfl) (fun _ _ _ h => h) ?_ ?_ ?_ (pu 20 (some 67) 2097151 ?_ ?_ HT_ rfl rfl (by kernel_rfl) (fun _ _ _ h => h) ?_ ?_ ?_ (tk 21 (some 68) 4194303 ?_ ?_ HT_ HW_ rfl rfl (by kernel_rfl) (fun _ _ _ h => h) G.at_ ?_ ?_ ?_ (pu 22 (some 69) 8388607 ?_ ?_ HT_ rfl rfl (by kernel_rfl) (fun _ _ _ h => h) ?_ ?_ ?_ (tk 23 (some 70) 16777215 ?_ ?_ HT_ HW_ rfl rfl (by kernel_rfl) (fun _ _ _ h => h) G.at_ ?_ ?_ ?_ (pu 24 (some 71) 33554431 ?_ ?_ HT_ rfl rfl (by kernel_rfl) (fun _ _ _ h => h) ?_ ?_ ?_ (pu 25 (some 72) 67108863 ?_ ?_ HT_ rfl rfl (by kernel_rfl) (fun _ _ _ h => h) ?_ ?_ ?_ (pu 26 (some 73) 134217727 ?_ ?_ HT_ rfl rfl (by kernel_rfl) (fun _ _ _ h => h) ?_ ?_ ?_ (tk 27 (some 74) 268435455 ?_ ?_ HT_ HW_ rfl rfl (by kernel_rfl) (fun _ _ _ h => h) G.at_ ?_ ?_ ?_ (tk 28 (some 75) 536870911 ?_ ?_ HT_ HW_ rfl rfl (by kernel_rfl) (fun _ _ _ h => h) G.at_ ?_ ?_ ?_ ?_)))))))))))
 all_goals first | (rintro w' ⟨⟨⟨⟨⟨⟨⟨⟨⟨⟨⟨-, -⟩, -⟩, -⟩, ⟨s0, s1, s2, s3⟩⟩, ⟨s4, s5, s6, s7⟩⟩, -⟩, ⟨s8, s9, s10, s11⟩⟩, -⟩, -⟩, ⟨s12, s13, s14, s15⟩⟩, ⟨s16, s17, s18, s19⟩⟩; go_simp; with_reducible rfl) | (intro w'; go_simp; with_reducible rfl) | (simp only [Act.put, List.setIfInBounds_toArray, List.set_cons_zero, List.set_cons_succ, i64_w, i32_w]; rfl) | rfl | skip
 refine rc 29 76 1073741823 HT_ rfl rfl (by kernel_rfl) Try.func15 (by kernel_rfl) rfl rfl #[.agg #[.slice A12_0 la.length c12_0, .int .i64 sa, .int .i64 ea, .string na], .agg #[.slice A12_1 lb.length c12_1, .int .i64 sb, .int .i64 eb, .string nb]] (by rfl) (by (try simp only [List.map_toArray, List.map_cons, List.map_nil]); first | done | rfl) ?_
 refine (impl_Touch.calls _ _ la sa ea na _ _ lb sb eb nb tt _ G.at_.1.1.1.1.1.1.1.1.1.2 HCA12_0.out G.at_.1.1.1.1.1.1.1.1.2 HCA12_1.out F11.out).mono ?_
 rintro e w1 ⟨rfl, hb⟩
 replace XA26_0 := XA26_0.go hb
 replace G := G.go hb; clear hb
 refine ⟨_, rfl, G.at_, ?_⟩; intro a' ha; simp only [Act.put, List.setIfInBounds_toArray, List.set_cons_zero, List.set_cons_succ, i64_w, i32_w] at ha; subst ha
 refine (pu 30 (some 77) 2147483647 ?_ ?_ HT_ rfl rfl (by kernel_rfl) (fun _ _ _ h => h) ?_ ?_ ?_ ?_)
 all_goals first | (rintro w' ⟨⟨⟨⟨⟨⟨⟨⟨⟨⟨⟨-, -⟩, -⟩, -⟩, ⟨s0, s1, s2, s3⟩⟩, ⟨s4, s5, s6, s7⟩⟩, -⟩, ⟨s8, s9, s10, s11⟩⟩, -⟩, -⟩, ⟨s12, s13, s14, s15⟩⟩, ⟨s16, s17, s18, s19⟩⟩; go_simp; with_reducible rfl) | (intro w'; go_simp; with_reducible rfl) | (simp only [Act.put, List.setIfInBounds_toArray, List.set_cons_zero, List.set_cons_succ, i64_w, i32_w]; rfl) | rfl | skip
 cases tt with
 | false =>
  have hk4_ := K4.out rfl
  refine (pu 31 (some 78) 4294967295 ?_ ?_ HT_ rfl rfl (by kernel_rfl) (fun _ _ _ h => h) ?_ ?_ ?_ (tk 32 (some 79) 8589934591 ?_ ?_ HT_ HW_ rfl rfl (by kernel_rfl) (fun _ _ _ h => h) G.at_ ?_ ?_ ?_ (pu 33 (some 80) 17179869183 ?_ ?_ HT_ rfl rfl (by kernel_rfl) (fun _ _ _ h => h) ?_ ?_ ?_ (tk 34 (some 81) 34359738367 ?_ ?_ HT_ HW_ rfl rfl (by kernel_rfl) (fun _ _ _ h => h) G.at_ ?_ ?_ ?_ (pu 35 (some 82) 68719476735 ?_ ?_ HT_ rfl rfl (by kernel_rfl) (fun _ _ _ h => h) ?_ ?_ ?_ (pu 36 (some 83) 137438953471 ?_ ?_ HT_ rfl rfl (by kernel_rfl) (fun _ _ _ h => h) ?_ ?_ ?_ (pu 37 (some 84) 274877906943 ?_ ?_ HT_ rfl rfl (by kernel_rfl) (fun _ _ _ h => h) ?_ ?_ ?_ (pu 38 (some 85) 549755813887 ?_ ?_ HT_ rfl rfl (by kernel_rfl) (fun _ _ _ h => h) ?_ ?_ ?_ (tk 39 (some 86) 1099511627775 ?_ ?_ HT_ HW_ rfl rfl (by kernel_rfl) (fun _ _ _ h => h) G.at_ ?_ ?_ ?_ (tk 40 (some 87) 2199023255551 ?_ ?_ HT_ HW_ rfl rfl (by kernel_rfl) (fun _ _ _ h => h) G.at_ ?_ ?_ ?_ (tk 42 (some 89) 6597069766655 ?_ ?_ HT_ HW_ rfl rfl (by kernel_rfl) (fun _ _ _ h => h) G.at_ ?_ ?_ ?_ ?_)))))))))))
  all_goals first | (rintro w' ⟨⟨⟨⟨⟨⟨⟨⟨⟨⟨⟨-, -⟩, -⟩, -⟩, ⟨s0, s1, s2, s3⟩⟩, ⟨s4, s5, s6, s7⟩⟩, -⟩, ⟨s8, s9, s10, s11⟩⟩, -⟩, -⟩, ⟨s12, s13, s14, s15⟩⟩, ⟨s16, s17, s18, s19⟩⟩; go_simp; with_reducible rfl) | (intro w'; go_simp; with_reducible rfl) | (simp only [Act.put, List.setIfInBounds_toArray, List.set_cons_zero, List.set_cons_succ, i64_w, i32_w]; rfl) | rfl | skip
  refine rc 41 88 8796093022207 HT_ rfl rfl (by kernel_rfl) Try.func11 (by kernel_rfl) rfl rfl #[.agg #[.slice A12_0 la.length c12_0, .int .i64 sa, .int .i64 ea, .string na], .agg #[.slice A17_0 lb.length c17_0, .int .i64 ms, .int .i64 eb, .string nb]] (by rfl) (by (try simp only [List.map_toArray, List.map_cons, List.map_nil]); first | done | rfl) ?_
  refine (impl_Merge.calls _ _ la sa ea na _ _ lb ms eb nb lb ms eb nb _ G.at_.1.1.1.1.1.1.1.1.1.2 HCA12_0.out G.at_.1.1.1.1.1.2 HCA17_0.out F12.out).mono ?_
  rintro e w1 ⟨v88_0, rfl, ho88_0, hb⟩
  obtain ⟨A88_0, c88_0, rfl, hcA88_0, hCA88_0⟩ := Kd.R_reads ho88_0
  clear ho88_0; have HCA88_0 := aM hcA88_0; clear hcA88_0
  replace XA26_0 := XA26_0.go hb
  have XA88_0 := Gs.row hCA88_0; clear hCA88_0
  replace G := G.go hb; clear hb
  refine ⟨_, rfl, G.at_, ?_⟩; intro a' ha; simp only [Act.put, List.setIfInBounds_toArray, List.set_cons_zero, List.set_cons_succ, i64_w, i32_w] at ha; subst ha
  refine rc 43 90 17592186044415 HT_ rfl rfl (by kernel_rfl) Try.func13 (by kernel_rfl) rfl rfl #[.agg #[.slice A88_0 lb.length c88_0, .int .i64 ms, .int .i64 eb, .string nb], .agg #[.slice A17_0 lb.length c17_0, .int .i64 ms, .int .i64 eb, .string nb]] (by rfl) (by (try simp only [List.map_toArray, List.map_cons, List.map_nil]); first | done | rfl) ?_
  refine (impl_SameAlarm.calls k _ _ lb ms eb nb _ _ lb ms eb nb true _ XA88_0.at_ HCA88_0.out G.at_.1.1.1.1.1.2 HCA17_0.out F6.out).mono ?_
  rintro e w1 ⟨rfl, hb⟩
  replace XA26_0 := XA26_0.go hb
  replace XA88_0 := XA88_0.go hb
  replace G := G.go hb; clear hb
  refine ⟨_, rfl, G.at_, ?_⟩; intro a' ha; simp only [Act.put, List.setIfInBounds_toArray, List.set_cons_zero, List.set_cons_succ, i64_w, i32_w] at ha; subst ha
  refine (pu 44 (some 91) 35184372088831 ?_ ?_ HT_ rfl rfl (by kernel_rfl) (fun _ _ _ h => h) ?_ ?_ ?_ (pu 45 (some 92) 70368744177663 ?_ ?_ HT_ rfl rfl (by kernel_rfl) (fun _ _ _ h => h) ?_ ?_ ?_ (tk 46 (some 93) 140737488355327 ?_ ?_ HT_ HW_ rfl rfl (by kernel_rfl) (fun _ _ _ h => h) G.at_ ?_ ?_ ?_ (tk 47 (some 94) 281474976710655 ?_ ?_ HT_ HW_ rfl rfl (by kernel_rfl) (fun _ _ _ h => h) G.at_ ?_ ?_ ?_ (tk 49 (some 96) 844424930131967 ?_ ?_ HT_ HW_ rfl rfl (by kernel_rfl) (fun _ _ _ h => h) G.at_ ?_ ?_ ?_ ?_)))))
  all_goals first | (rintro w' ⟨⟨⟨⟨⟨⟨⟨⟨⟨⟨⟨-, -⟩, -⟩, -⟩, ⟨s0, s1, s2, s3⟩⟩, ⟨s4, s5, s6, s7⟩⟩, -⟩, ⟨s8, s9, s10, s11⟩⟩, -⟩, -⟩, ⟨s12, s13, s14, s15⟩⟩, ⟨s16, s17, s18, s19⟩⟩; go_simp; with_reducible rfl) | (intro w'; go_simp; with_reducible rfl) | (simp only [Act.put, List.setIfInBounds_toArray, List.set_cons_zero, List.set_cons_succ, i64_w, i32_w]; rfl) | rfl | skip
  refine rc 48 95 1125899906842623 HT_ rfl rfl (by kernel_rfl) Try.func11 (by kernel_rfl) rfl rfl #[.agg #[.slice A12_1 lb.length c12_1, .int .i64 sb, .int .i64 eb, .string nb], .agg #[.slice A12_1 lb.length c12_1, .int .i64 sb, .int .i64 eb, .string nb]] (by rfl) (by (try simp only [List.map_toArray, List.map_cons, List.map_nil]); first | done | rfl) ?_
  refine (impl_Merge.calls _ _ lb sb eb nb _ _ lb sb eb nb lb sb eb nb _ G.at_.1.1.1.1.1.1.1.1.2 HCA12_1.out G.at_.1.1.1.1.1.1.1.1.2 HCA12_1.out F13.out).mono ?_
  rintro e w1 ⟨v95_0, rfl, ho95_0, hb⟩
  obtain ⟨A95_0, c95_0, rfl, hcA95_0, hCA95_0⟩ := Kd.R_reads ho95_0
  clear ho95_0; have HCA95_0 := aM hcA95_0; clear hcA95_0
  replace XA26_0 := XA26_0.go hb
  replace XA88_0 := XA88_0.go hb
  have XA95_0 := Gs.row hCA95_0; clear hCA95_0
  replace G := G.go hb; clear hb
  refine ⟨_, rfl, G.at_, ?_⟩; intro a' ha; simp only [Act.put, List.setIfInBounds_toArray, List.set_cons_zero, List.set_cons_succ, i64_w, i32_w] at ha; subst ha
  refine rc 50 97 2251799813685247 HT_ rfl rfl (by kernel_rfl) Try.func13 (by kernel_rfl) rfl rfl #[.agg #[.slice A95_0 lb.length c95_0, .int .i64 sb, .int .i64 eb, .string nb], .agg #[.slice A12_1 lb.length c12_1, .int .i64 sb, .int .i64 eb, .string nb]] (by rfl) (by (try simp only [List.map_toArray, List.map_cons, List.map_nil]); first | done | rfl) ?_
  refine (impl_SameAlarm.calls k _ _ lb sb eb nb _ _ lb sb eb nb true _ XA95_0.at_ HCA95_0.out G.at_.1.1.1.1.1.1.1.1.2 HCA12_1.out F14.out).mono ?_
  rintro e w1 ⟨rfl, hb⟩
  replace XA26_0 := XA26_0.go hb
  replace XA88_0 := XA88_0.go hb
  replace XA95_0 := XA95_0.go hb
  replace G := G.go hb; clear hb
  refine ⟨_, rfl, G.at_, ?_⟩; intro a' ha; simp only [Act.put, List.setIfInBounds_toArray, List.set_cons_zero, List.set_cons_succ, i64_w, i32_w] at ha; subst ha
  refine (pu 51 (some 98) 4503599627370495 ?_ ?_ HT_ rfl rfl (by kernel_rfl) (fun _ _ _ h => h) ?_ ?_ ?_ (pu 52 (some 99) 9007199254740991 ?_ ?_ HT_ rfl rfl (by kernel_rfl) (fun _ _ _ h => h) ?_ ?_ ?_ (tk 53 (some 100) 18014398509481983 ?_ ?_ HT_ HW_ rfl rfl (by kernel_rfl) (fun _ _ _ h => h) G.at_ ?_ ?_ ?_ ?_)))
  all_goals first | (rintro w' ⟨⟨⟨⟨⟨⟨⟨⟨⟨⟨⟨-, -⟩, -⟩, -⟩, ⟨s0, s1, s2, s3⟩⟩, ⟨s4, s5, s6, s7⟩⟩, -⟩, ⟨s8, s9, s10, s11⟩⟩, -⟩, -⟩, ⟨s12, s13, s14, s15⟩⟩, ⟨s16, s17, s18, s19⟩⟩; go_simp; with_reducible rfl) | (intro w'; go_simp; with_reducible rfl) | (simp only [Act.put, List.setIfInBounds_toArray, List.set_cons_zero, List.set_cons_succ, i64_w, i32_w]; rfl) | rfl | skip
  refine rc 54 101 36028797018963967 HT_ rfl rfl (by kernel_rfl) Try.func18 (by kernel_rfl) rfl rfl #[.agg #[.slice A12_0 la.length c12_0, .int .i64 sa, .int .i64 ea, .string na]] (by rfl) (by (try simp only [List.map_toArray, List.map_cons, List.map_nil]); first | done | rfl) ?_
  refine (impl_AlarmOk.calls k _ _ la sa ea na oa _ G.at_.1.1.1.1.1.1.1.1.1.2 HCA12_0.out F15.out).mono ?_
  rintro e w1 ⟨rfl, hb⟩
  replace XA26_0 := XA26_0.go hb
  replace XA88_0 := XA88_0.go hb
  replace XA95_0 := XA95_0.go hb
  replace G := G.go hb; clear hb
  refine ⟨_, rfl, G.at_, ?_⟩; intro a' ha; simp only [Act.put, List.setIfInBounds_toArray, List.set_cons_zero, List.set_cons_succ, i64_w, i32_w] at ha; subst ha
  refine (pu 55 (some 102) 72057594037927935 ?_ ?_ HT_ rfl rfl (by kernel_rfl) (fun _ _ _ h => h) ?_ ?_ ?_ (pu 56 (some 103) 144115188075855871 ?_ ?_ HT_ rfl rfl (by kernel_rfl) (fun _ _ _ h => h) ?_ ?_ ?_ ?_))
  all_goals first | (rintro w' ⟨⟨⟨⟨⟨⟨⟨⟨⟨⟨⟨-, -⟩, -⟩, -⟩, ⟨s0, s1, s2, s3⟩⟩, ⟨s4, s5, s6, s7⟩⟩, -⟩, ⟨s8, s9, s10, s11⟩⟩, -⟩, -⟩, ⟨s12, s13, s14, s15⟩⟩, ⟨s16, s17, s18, s19⟩⟩; go_simp; with_reducible rfl) | (intro w'; go_simp; with_reducible rfl) | (simp only [Act.put, List.setIfInBounds_toArray, List.set_cons_zero, List.set_cons_succ, i64_w, i32_w]; rfl) | rfl | skip
  cases oa with
  | false =>
   refine (po 57 (some 104) 288230376151711743 ?_ HT_ rfl rfl (by kernel_rfl) (fun _ _ _ h => h) ?_ ?_ (po 58 (some 105) 576460752303423487 ?_ HT_ rfl rfl (by kernel_rfl) (fun _ _ _ h => h) ?_ ?_ (po 59 (some 106) 1152921504606846975 ?_ HT_ rfl rfl (by kernel_rfl) (fun _ _ _ h => h) ?_ ?_ (pu 60 (some 107) 2305843009213693951 ?_ ?_ HT_ rfl rfl (by kernel_rfl) (fun _ _ _ h => h) ?_ ?_ ?_ (pu 61 (some 108) 4611686018427387903 ?_ ?_ HT_ rfl rfl (by kernel_rfl) (fun _ _ _ h => h) ?_ ?_ ?_ (po 62 (some 109) 9223372036854775807 ?_ HT_ rfl rfl (by kernel_rfl) (fun _ _ _ h => h) ?_ ?_ (po 63 (some 110) 18446744073709551615 ?_ HT_ rfl rfl (by kernel_rfl) (fun _ _ _ h => h) ?_ ?_ (pu 64 (some 111) 36893488147419103231 ?_ ?_ HT_ rfl rfl (by kernel_rfl) (fun _ _ _ h => h) ?_ ?_ ?_ (pu 65 (some 112) 73786976294838206463 ?_ ?_ HT_ rfl rfl (by kernel_rfl) (fun _ _ _ h => h) ?_ ?_ ?_ (pu 66 (some 2) 147573952589676412927 ?_ ?_ HT_ rfl rfl (by kernel_rfl) (fun _ _ _ h => h) ?_ ?_ ?_ ?_))))))))))
   all_goals first | (rintro w' ⟨⟨⟨⟨⟨⟨⟨⟨⟨⟨⟨-, -⟩, -⟩, -⟩, ⟨s0, s1, s2, s3⟩⟩, ⟨s4, s5, s6, s7⟩⟩, -⟩, ⟨s8, s9, s10, s11⟩⟩, -⟩, -⟩, ⟨s12, s13, s14, s15⟩⟩, ⟨s16, s17, s18, s19⟩⟩; go_simp; with_reducible rfl) | (intro w'; go_simp; with_reducible rfl) | (simp only [Act.put, List.setIfInBounds_toArray, List.set_cons_zero, List.set_cons_succ, i64_w, i32_w]; rfl) | rfl | skip
   refine done_ (done_of HT_.out (by kernel_rfl)) ?_
   try go_wp2
   go_ret
   exact ⟨rfl, G.at_.1.1.1.1.1.1.1.1.1.1.1⟩
  | true =>
   refine (tk 57 (some 104) 288230376151711743 ?_ ?_ HT_ HW_ rfl rfl (by kernel_rfl) (fun _ _ _ h => h) G.at_ ?_ ?_ ?_ ?_)
   all_goals first | (rintro w' ⟨⟨⟨⟨⟨⟨⟨⟨⟨⟨⟨-, -⟩, -⟩, -⟩, ⟨s0, s1, s2, s3⟩⟩, ⟨s4, s5, s6, s7⟩⟩, -⟩, ⟨s8, s9, s10, s11⟩⟩, -⟩, -⟩, ⟨s12, s13, s14, s15⟩⟩, ⟨s16, s17, s18, s19⟩⟩; go_simp; with_reducible rfl) | (intro w'; go_simp; with_reducible rfl) | (simp only [Act.put, List.setIfInBounds_toArray, List.set_cons_zero, List.set_cons_succ, i64_w, i32_w]; rfl) | rfl | skip
   refine rc 58 105 576460752303423487 HT_ rfl rfl (by kernel_rfl) Try.func18 (by kernel_rfl) rfl rfl #[.agg #[.slice A12_1 lb.length c12_1, .int .i64 sb, .int .i64 eb, .string nb]] (by rfl) (by (try simp only [List.map_toArray, List.map_cons, List.map_nil]); first | done | rfl) ?_
   refine (impl_AlarmOk.calls k _ _ lb sb eb nb ob _ G.at_.1.1.1.1.1.1.1.1.2 HCA12_1.out F16.out).mono ?_
   rintro e w1 ⟨rfl, hb⟩
   replace XA26_0 := XA26_0.go hb
   replace XA88_0 := XA88_0.go hb
   replace XA95_0 := XA95_0.go hb
   replace G := G.go hb; clear hb
   refine ⟨_, rfl, G.at_, ?_⟩; intro a' ha; simp only [Act.put, List.setIfInBounds_toArray, List.set_cons_zero, List.set_cons_succ, i64_w, i32_w] at ha; subst ha
   refine (pu 59 (some 106) 1152921504606846975 ?_ ?_ HT_ rfl rfl (by kernel_rfl) (fun _ _ _ h => h) ?_ ?_ ?_ (pu 60 (some 107) 2305843009213693951 ?_ ?_ HT_ rfl rfl (by kernel_rfl) (fun _ _ _ h => h) ?_ ?_ ?_ (pu 61 (some 108) 4611686018427387903 ?_ ?_ HT_ rfl rfl (by kernel_rfl) (fun _ _ _ h => h) ?_ ?_ ?_ ?_)))
   all_goals first | (rintro w' ⟨⟨⟨⟨⟨⟨⟨⟨⟨⟨⟨-, -⟩, -⟩, -⟩, ⟨s0, s1, s2, s3⟩⟩, ⟨s4, s5, s6, s7⟩⟩, -⟩, ⟨s8, s9, s10, s11⟩⟩, -⟩, -⟩, ⟨s12, s13, s14, s15⟩⟩, ⟨s16, s17, s18, s19⟩⟩; go_simp; with_reducible rfl) | (intro w'; go_simp; with_reducible rfl) | (simp only [Act.put, List.setIfInBounds_toArray, List.set_cons_zero, List.set_cons_succ, i64_w, i32_w]; rfl) | rfl | skip
   cases ob with
   | false =>
    refine (po 62 (some 109) 9223372036854775807 ?_ HT_ rfl rfl (by kernel_rfl) (fun _ _ _ h => h) ?_ ?_ (po 63 (some 110) 18446744073709551615 ?_ HT_ rfl rfl (by kernel_rfl) (fun _ _ _ h => h) ?_ ?_ (pu 64 (some 111) 36893488147419103231 ?_ ?_ HT_ rfl rfl (by kernel_rfl) (fun _ _ _ h => h) ?_ ?_ ?_ (pu 65 (some 112) 73786976294838206463 ?_ ?_ HT_ rfl rfl (by kernel_rfl) (fun _ _ _ h => h) ?_ ?_ ?_ (pu 66 (some 2) 147573952589676412927 ?_ ?_ HT_ rfl rfl (by kernel_rfl) (fun _ _ _ h => h) ?_ ?_ ?_ ?_)))))
    all_goals first | (rintro w' ⟨⟨⟨⟨⟨⟨⟨⟨⟨⟨⟨-, -⟩, -⟩, -⟩, ⟨s0, s1, s2, s3⟩⟩, ⟨s4, s5, s6, s7⟩⟩, -⟩, ⟨s8, s9, s10, s11⟩⟩, -⟩, -⟩, ⟨s12, s13, s14, s15⟩⟩, ⟨s16, s17, s18, s19⟩⟩; go_simp; with_reducible rfl) | (intro w'; go_simp; with_reducible rfl) | (simp only [Act.put, List.setIfInBounds_toArray, List.set_cons_zero, List.set_cons_succ, i64_w, i32_w]; rfl) | rfl | skip
    refine done_ (done_of HT_.out (by kernel_rfl)) ?_
    try go_wp2
    go_ret
    exact ⟨rfl, G.at_.1.1.1.1.1.1.1.1.1.1.1⟩
   | true =>
    refine (tk 62 (some 109) 9223372036854775807 ?_ ?_ HT_ HW_ rfl rfl (by kernel_rfl) (fun _ _ _ h => h) G.at_ ?_ ?_ ?_ ?_)
    all_goals first | (rintro w' ⟨⟨⟨⟨⟨⟨⟨⟨⟨⟨⟨-, -⟩, -⟩, -⟩, ⟨s0, s1, s2, s3⟩⟩, ⟨s4, s5, s6, s7⟩⟩, -⟩, ⟨s8, s9, s10, s11⟩⟩, -⟩, -⟩, ⟨s12, s13, s14, s15⟩⟩, ⟨s16, s17, s18, s19⟩⟩; go_simp; with_reducible rfl) | (intro w'; go_simp; with_reducible rfl) | (simp only [Act.put, List.setIfInBounds_toArray, List.set_cons_zero, List.set_cons_succ, i64_w, i32_w]; rfl) | rfl | skip
    refine rc 63 110 18446744073709551615 HT_ rfl rfl (by kernel_rfl) Try.func18 (by kernel_rfl) rfl rfl #[.agg #[.slice A17_0 lb.length c17_0, .int .i64 ms, .int .i64 eb, .string nb]] (by rfl) (by (try simp only [List.map_toArray, List.map_cons, List.map_nil]); first | done | rfl) ?_
    refine (impl_AlarmOk.calls k _ _ lb ms eb nb true _ G.at_.1.1.1.1.1.2 HCA17_0.out (F17.out rfl rfl)).mono ?_
    rintro e w1 ⟨rfl, hb⟩
    replace XA26_0 := XA26_0.go hb
    replace XA88_0 := XA88_0.go hb
    replace XA95_0 := XA95_0.go hb
    replace G := G.go hb; clear hb
    refine ⟨_, rfl, G.at_, ?_⟩; intro a' ha; simp only [Act.put, List.setIfInBounds_toArray, List.set_cons_zero, List.set_cons_succ, i64_w, i32_w] at ha; subst ha
    refine (pu 64 (some 111) 36893488147419103231 ?_ ?_ HT_ rfl rfl (by kernel_rfl) (fun _ _ _ h => h) ?_ ?_ ?_ (pu 65 (some 112) 73786976294838206463 ?_ ?_ HT_ rfl rfl (by kernel_rfl) (fun _ _ _ h => h) ?_ ?_ ?_ (pu 66 (some 2) 147573952589676412927 ?_ ?_ HT_ rfl rfl (by kernel_rfl) (fun _ _ _ h => h) ?_ ?_ ?_ ?_)))
    all_goals first | (rintro w' ⟨⟨⟨⟨⟨⟨⟨⟨⟨⟨⟨-, -⟩, -⟩, -⟩, ⟨s0, s1, s2, s3⟩⟩, ⟨s4, s5, s6, s7⟩⟩, -⟩, ⟨s8, s9, s10, s11⟩⟩, -⟩, -⟩, ⟨s12, s13, s14, s15⟩⟩, ⟨s16, s17, s18, s19⟩⟩; go_simp; with_reducible rfl) | (intro w'; go_simp; with_reducible rfl) | (simp only [Act.put, List.setIfInBounds_toArray, List.set_cons_zero, List.set_cons_succ, i64_w, i32_w]; rfl) | rfl | skip
    refine done_ (done_of HT_.out (by kernel_rfl)) ?_
    try go_wp2
    go_ret
    exact ⟨rfl, G.at_.1.1.1.1.1.1.1.1.1.1.1⟩
 | true =>
  refine (po 31 (some 78) 4294967295 ?_ HT_ rfl rfl (by kernel_rfl) (fun _ _ _ h => h) ?_ ?_ (po 32 (some 79) 8589934591 ?_ HT_ rfl rfl (by kernel_rfl) (fun _ _ _ h => h) ?_ ?_ (po 33 (some 80) 17179869183 ?_ HT_ rfl rfl (by kernel_rfl) (fun _ _ _ h => h) ?_ ?_ (po 34 (some 81) 34359738367 ?_ HT_ rfl rfl (by kernel_rfl) (fun _ _ _ h => h) ?_ ?_ (po 35 (some 82) 68719476735 ?_ HT_ rfl rfl (by kernel_rfl) (fun _ _ _ h => h) ?_ ?_ (pu 36 (some 83) 137438953471 ?_ ?_ HT_ rfl rfl (by kernel_rfl) (fun _ _ _ h => h) ?_ ?_ ?_ (pu 37 (some 84) 274877906943 ?_ ?_ HT_ rfl rfl (by kernel_rfl) (fun _ _ _ h => h) ?_ ?_ ?_ (pu 38 (some 85) 549755813887 ?_ ?_ HT_ rfl rfl (by kernel_rfl) (fun _ _ _ h => h) ?_ ?_ ?_ (tk 39 (some 86) 1099511627775 ?_ ?_ HT_ HW_ rfl rfl (by kernel_rfl) (fun _ _ _ h => h) G.at_ ?_ ?_ ?_ (tk 40 (some 87) 2199023255551 ?_ ?_ HT_ HW_ rfl rfl (by kernel_rfl) (fun _ _ _ h => h) G.at_ ?_ ?_ ?_ (tk 42 (some 89) 6597069766655 ?_ ?_ HT_ HW_ rfl rfl (by kernel_rfl) (fun _ _ _ h => h) G.at_ ?_ ?_ ?_ ?_)))))))))))
  all_goals first | (rintro w' ⟨⟨⟨⟨⟨⟨⟨⟨⟨⟨⟨-, -⟩, -⟩, -⟩, ⟨s0, s1, s2, s3⟩⟩, ⟨s4, s5, s6, s7⟩⟩, -⟩, ⟨s8, s9, s10, s11⟩⟩, -⟩, -⟩, ⟨s12, s13, s14, s15⟩⟩, ⟨s16, s17, s18, s19⟩⟩; go_simp; with_reducible rfl) | (intro w'; go_simp; with_reducible rfl) | (simp only [Act.put, List.setIfInBounds_toArray, List.set_cons_zero, List.set_cons_succ, i64_w, i32_w]; rfl) | rfl | skip
  refine rc 41 88 8796093022207 HT_ rfl rfl (by kernel_rfl) Try.func11 (by kernel_rfl) rfl rfl #[.agg #[.slice A12_0 la.length c12_0, .int .i64 sa, .int .i64 ea, .string na], .agg #[.slice A17_0 lb.length c17_0, .int .i64 ms, .int .i64 eb, .string nb]] (by rfl) (by (try simp only [List.map_toArray, List.map_cons, List.map_nil]); first | done | rfl) ?_
  refine (impl_Merge.calls _ _ la sa ea na _ _ lb ms eb nb lb ms eb nb _ G.at_.1.1.1.1.1.1.1.1.1.2 HCA12_0.out G.at_.1.1.1.1.1.2 HCA17_0.out F12.out).mono ?_
  rintro e w1 ⟨v88_0, rfl, ho88_0, hb⟩
  obtain ⟨A88_0, c88_0, rfl, hcA88_0, hCA88_0⟩ := Kd.R_reads ho88_0
  clear ho88_0; have HCA88_0 := aM hcA88_0; clear hcA88_0
  replace XA26_0 := XA26_0.go hb
  have XA88_0 := Gs.row hCA88_0; clear hCA88_0
  replace G := G.go hb; clear hb
  refine ⟨_, rfl, G.at_, ?_⟩; intro a' ha; simp only [Act.put, List.setIfInBounds_toArray, List.set_cons_zero, List.set_cons_succ, i64_w, i32_w] at ha; subst ha
  refine rc 43 90 17592186044415 HT_ rfl rfl (by kernel_rfl) Try.func13 (by kernel_rfl) rfl rfl #[.agg #[.slice A88_0 lb.length c88_0, .int .i64 ms, .int .i64 eb, .string nb], .agg #[.slice A17_0 lb.length c17_0, .int .i64 ms, .int .i64 eb, .string nb]] (by rfl) (by (try simp only [List.map_toArray, List.map_cons, List.map_nil]); first | done | rfl) ?_
  refine (impl_SameAlarm.calls k _ _ lb ms eb nb _ _ lb ms eb nb true _ XA88_0.at_ HCA88_0.out G.at_.1.1.1.1.1.2 HCA17_0.out F6.out).mono ?_
  rintro e w1 ⟨rfl, hb⟩
  replace XA26_0 := XA26_0.go hb
  replace XA88_0 := XA88_0.go hb
  replace G := G.go hb; clear hb
  refine ⟨_, rfl, G.at_, ?_⟩; intro a' ha; simp only [Act.put, List.setIfInBounds_toArray, List.set_cons_zero, List.set_cons_succ, i64_w, i32_w] at ha; subst ha
  refine (pu 44 (some 91) 35184372088831 ?_ ?_ HT_ rfl rfl (by kernel_rfl) (fun _ _ _ h => h) ?_ ?_ ?_ (pu 45 (some 92) 70368744177663 ?_ ?_ HT_ rfl rfl (by kernel_rfl) (fun _ _ _ h => h) ?_ ?_ ?_ (tk 46 (some 93) 140737488355327 ?_ ?_ HT_ HW_ rfl rfl (by kernel_rfl) (fun _ _ _ h => h) G.at_ ?_ ?_ ?_ (tk 47 (some 94) 281474976710655 ?_ ?_ HT_ HW_ rfl rfl (by kernel_rfl) (fun _ _ _ h => h) G.at_ ?_ ?_ ?_ (tk 49 (some 96) 844424930131967 ?_ ?_ HT_ HW_ rfl rfl (by kernel_rfl) (fun _ _ _ h => h) G.at_ ?_ ?_ ?_ ?_)))))
  all_goals first | (rintro w' ⟨⟨⟨⟨⟨⟨⟨⟨⟨⟨⟨-, -⟩, -⟩, -⟩, ⟨s0, s1, s2, s3⟩⟩, ⟨s4, s5, s6, s7⟩⟩, -⟩, ⟨s8, s9, s10, s11⟩⟩, -⟩, -⟩, ⟨s12, s13, s14, s15⟩⟩, ⟨s16, s17, s18, s19⟩⟩; go_simp; with_reducible rfl) | (intro w'; go_simp; with_reducible rfl) | (simp only [Act.put, List.setIfInBounds_toArray, List.set_cons_zero, List.set_cons_succ, i64_w, i32_w]; rfl) | rfl | skip
  refine rc 48 95 1125899906842623 HT_ rfl rfl (by kernel_rfl) Try.func11 (by kernel_rfl) rfl rfl #[.agg #[.slice A12_1 lb.length c12_1, .int .i64 sb, .int .i64 eb, .string nb], .agg #[.slice A12_1 lb.length c12_1, .int .i64 sb, .int .i64 eb, .string nb]] (by rfl) (by (try simp only [List.map_toArray, List.map_cons, List.map_nil]); first | done | rfl) ?_
  refine (impl_Merge.calls _ _ lb sb eb nb _ _ lb sb eb nb lb sb eb nb _ G.at_.1.1.1.1.1.1.1.1.2 HCA12_1.out G.at_.1.1.1.1.1.1.1.1.2 HCA12_1.out F13.out).mono ?_
  rintro e w1 ⟨v95_0, rfl, ho95_0, hb⟩
  obtain ⟨A95_0, c95_0, rfl, hcA95_0, hCA95_0⟩ := Kd.R_reads ho95_0
  clear ho95_0; have HCA95_0 := aM hcA95_0; clear hcA95_0
  replace XA26_0 := XA26_0.go hb
  replace XA88_0 := XA88_0.go hb
  have XA95_0 := Gs.row hCA95_0; clear hCA95_0
  replace G := G.go hb; clear hb
  refine ⟨_, rfl, G.at_, ?_⟩; intro a' ha; simp only [Act.put, List.setIfInBounds_toArray, List.set_cons_zero, List.set_cons_succ, i64_w, i32_w] at ha; subst ha
  refine rc 50 97 2251799813685247 HT_ rfl rfl (by kernel_rfl) Try.func13 (by kernel_rfl) rfl rfl #[.agg #[.slice A95_0 lb.length c95_0, .int .i64 sb, .int .i64 eb, .string nb], .agg #[.slice A12_1 lb.length c12_1, .int .i64 sb, .int .i64 eb, .string nb]] (by rfl) (by (try simp only [List.map_toArray, List.map_cons, List.map_nil]); first | done | rfl) ?_
  refine (impl_SameAlarm.calls k _ _ lb sb eb nb _ _ lb sb eb nb true _ XA95_0.at_ HCA95_0.out G.at_.1.1.1.1.1.1.1.1.2 HCA12_1.out F14.out).mono ?_
  rintro e w1 ⟨rfl, hb⟩
  replace XA26_0 := XA26_0.go hb
  replace XA88_0 := XA88_0.go hb
  replace XA95_0 := XA95_0.go hb
  replace G := G.go hb; clear hb
  refine ⟨_, rfl, G.at_, ?_⟩; intro a' ha; simp only [Act.put, List.setIfInBounds_toArray, List.set_cons_zero, List.set_cons_succ, i64_w, i32_w] at ha; subst ha
  refine (pu 51 (some 98) 4503599627370495 ?_ ?_ HT_ rfl rfl (by kernel_rfl) (fun _ _ _ h => h) ?_ ?_ ?_ (pu 52 (some 99) 9007199254740991 ?_ ?_ HT_ rfl rfl (by kernel_rfl) (fun _ _ _ h => h) ?_ ?_ ?_ (tk 53 (some 100) 18014398509481983 ?_ ?_ HT_ HW_ rfl rfl (by kernel_rfl) (fun _ _ _ h => h) G.at_ ?_ ?_ ?_ ?_)))
  all_goals first | (rintro w' ⟨⟨⟨⟨⟨⟨⟨⟨⟨⟨⟨-, -⟩, -⟩, -⟩, ⟨s0, s1, s2, s3⟩⟩, ⟨s4, s5, s6, s7⟩⟩, -⟩, ⟨s8, s9, s10, s11⟩⟩, -⟩, -⟩, ⟨s12, s13, s14, s15⟩⟩, ⟨s16, s17, s18, s19⟩⟩; go_simp; with_reducible rfl) | (intro w'; go_simp; with_reducible rfl) | (simp only [Act.put, List.setIfInBounds_toArray, List.set_cons_zero, List.set_cons_succ, i64_w, i32_w]; rfl) | rfl | skip
  refine rc 54 101 36028797018963967 HT_ rfl rfl (by kernel_rfl) Try.func18 (by kernel_rfl) rfl rfl #[.agg #[.slice A12_0 la.length c12_0, .int .i64 sa, .int .i64 ea, .string na]] (by rfl) (by (try simp only [List.map_toArray, List.map_cons, List.map_nil]); first | done | rfl) ?_
  refine (impl_AlarmOk.calls k _ _ la sa ea na oa _ G.at_.1.1.1.1.1.1.1.1.1.2 HCA12_0.out F15.out).mono ?_
  rintro e w1 ⟨rfl, hb⟩
  replace XA26_0 := XA26_0.go hb
  replace XA88_0 := XA88_0.go hb
  replace XA95_0 := XA95_0.go hb
  replace G := G.go hb; clear hb
  refine ⟨_, rfl, G.at_, ?_⟩; intro a' ha; simp only [Act.put, List.setIfInBounds_toArray, List.set_cons_zero, List.set_cons_succ, i64_w, i32_w] at ha; subst ha
  refine (pu 55 (some 102) 72057594037927935 ?_ ?_ HT_ rfl rfl (by kernel_rfl) (fun _ _ _ h => h) ?_ ?_ ?_ (pu 56 (some 103) 144115188075855871 ?_ ?_ HT_ rfl rfl (by kernel_rfl) (fun _ _ _ h => h) ?_ ?_ ?_ ?_))
  all_goals first | (rintro w' ⟨⟨⟨⟨⟨⟨⟨⟨⟨⟨⟨-, -⟩, -⟩, -⟩, ⟨s0, s1, s2, s3⟩⟩, ⟨s4, s5, s6, s7⟩⟩, -⟩, ⟨s8, s9, s10, s11⟩⟩, -⟩, -⟩, ⟨s12, s13, s14, s15⟩⟩, ⟨s16, s17, s18, s19⟩⟩; go_simp; with_reducible rfl) | (intro w'; go_simp; with_reducible rfl) | (simp only [Act.put, List.setIfInBounds_toArray, List.set_cons_zero, List.set_cons_succ, i64_w, i32_w]; rfl) | rfl | skip
  cases oa with
  | false =>
   refine (po 57 (some 104) 288230376151711743 ?_ HT_ rfl rfl (by kernel_rfl) (fun _ _ _ h => h) ?_ ?_ (po 58 (some 105) 576460752303423487 ?_ HT_ rfl rfl (by kernel_rfl) (fun _ _ _ h => h) ?_ ?_ (po 59 (some 106) 1152921504606846975 ?_ HT_ rfl rfl (by kernel_rfl) (fun _ _ _ h => h) ?_ ?_ (pu 60 (some 107) 2305843009213693951 ?_ ?_ HT_ rfl rfl (by kernel_rfl) (fun _ _ _ h => h) ?_ ?_ ?_ (pu 61 (some 108) 4611686018427387903 ?_ ?_ HT_ rfl rfl (by kernel_rfl) (fun _ _ _ h => h) ?_ ?_ ?_ (po 62 (some 109) 9223372036854775807 ?_ HT_ rfl rfl (by kernel_rfl) (fun _ _ _ h => h) ?_ ?_ (po 63 (some 110) 18446744073709551615 ?_ HT_ rfl rfl (by kernel_rfl) (fun _ _ _ h => h) ?_ ?_ (pu 64 (some 111) 36893488147419103231 ?_ ?_ HT_ rfl rfl (by kernel_rfl) (fun _ _ _ h => h) ?_ ?_ ?_ (pu 65 (some 112) 73786976294838206463 ?_ ?_ HT_ rfl rfl (by kernel_rfl) (fun _ _ _ h => h) ?_ ?_ ?_ (pu 66 (some 2) 147573952589676412927 ?_ ?_ HT_ rfl rfl (by kernel_rfl) (fun _ _ _ h => h) ?_ ?_ ?_ ?_))))))))))
   all_goals first | (rintro w' ⟨⟨⟨⟨⟨⟨⟨⟨⟨⟨⟨-, -⟩, -⟩, -⟩, ⟨s0, s1, s2, s3⟩⟩, ⟨s4, s5, s6, s7⟩⟩, -⟩, ⟨s8, s9, s10, s11⟩⟩, -⟩, -⟩, ⟨s12, s13, s14, s15⟩⟩, ⟨s16, s17, s18, s19⟩⟩; go_simp; with_reducible rfl) | (intro w'; go_simp; with_reducible rfl) | (simp only [Act.put, List.setIfInBounds_toArray, List.set_cons_zero, List.set_cons_succ, i64_w, i32_w]; rfl) | rfl | skip
   refine done_ (done_of HT_.out (by kernel_rfl)) ?_
   try go_wp2
   go_ret
   exact ⟨rfl, G.at_.1.1.1.1.1.1.1.1.1.1.1⟩
  | true =>
   refine (tk 57 (some 104) 288230376151711743 ?_ ?_ HT_ HW_ rfl rfl (by kernel_rfl) (fun _ _ _ h => h) G.at_ ?_ ?_ ?_ ?_)
   all_goals first | (rintro w' ⟨⟨⟨⟨⟨⟨⟨⟨⟨⟨⟨-, -⟩, -⟩, -⟩, ⟨s0, s1, s2, s3⟩⟩, ⟨s4, s5, s6, s7⟩⟩, -⟩, ⟨s8, s9, s10, s11⟩⟩, -⟩, -⟩, ⟨s12, s13, s14, s15⟩⟩, ⟨s16, s17, s18, s19⟩⟩; go_simp; with_reducible rfl) | (intro w'; go_simp; with_reducible rfl) | (simp only [Act.put, List.setIfInBounds_toArray, List.set_cons_zero, List.set_cons_succ, i64_w, i32_w]; rfl) | rfl | skip
   refine rc 58 105 576460752303423487 HT_ rfl rfl (by kernel_rfl) Try.func18 (by kernel_rfl) rfl rfl #[.agg #[.slice A12_1 lb.length c12_1, .int .i64 sb, .int .i64 eb, .string nb]] (by rfl) (by (try simp only [List.map_toArray, List.map_cons, List.map_nil]); first | done | rfl) ?_
   refine (impl_AlarmOk.calls k _ _ lb sb eb nb ob _ G.at_.1.1.1.1.1.1.1.1.2 HCA12_1.out F16.out).mono ?_
   rintro e w1 ⟨rfl, hb⟩
   replace XA26_0 := XA26_0.go hb
   replace XA88_0 := XA88_0.go hb
   replace XA95_0 := XA95_0.go hb
   replace G := G.go hb; clear hb
   refine ⟨_, rfl, G.at_, ?_⟩; intro a' ha; simp only [Act.put, List.setIfInBounds_toArray, List.set_cons_zero, List.set_cons_succ, i64_w, i32_w] at ha; subst ha
   refine (pu 59 (some 106) 1152921504606846975 ?_ ?_ HT_ rfl rfl (by kernel_rfl) (fun _ _ _ h => h) ?_ ?_ ?_ (pu 60 (some 107) 2305843009213693951 ?_ ?_ HT_ rfl rfl (by kernel_rfl) (fun _ _ _ h => h) ?_ ?_ ?_ (pu 61 (some 108) 4611686018427387903 ?_ ?_ HT_ rfl rfl (by kernel_rfl) (fun _ _ _ h => h) ?_ ?_ ?_ ?_)))
   all_goals first | (rintro w' ⟨⟨⟨⟨⟨⟨⟨⟨⟨⟨⟨-, -⟩, -⟩, -⟩, ⟨s0, s1, s2, s3⟩⟩, ⟨s4, s5, s6, s7⟩⟩, -⟩, ⟨s8, s9, s10, s11⟩⟩, -⟩, -⟩, ⟨s12, s13, s14, s15⟩⟩, ⟨s16, s17, s18, s19⟩⟩; go_simp; with_reducible rfl) | (intro w'; go_simp; with_reducible rfl) | (simp only [Act.put, List.setIfInBounds_toArray, List.set_cons_zero, List.set_cons_succ, i64_w, i32_w]; rfl) | rfl | skip
   cases ob with
   | false =>
    refine (po 62 (some 109) 9223372036854775807 ?_ HT_ rfl rfl (by kernel_rfl) (fun _ _ _ h => h) ?_ ?_ (po 63 (some 110) 18446744073709551615 ?_ HT_ rfl rfl (by kernel_rfl) (fun _ _ _ h => h) ?_ ?_ (pu 64 (some 111) 36893488147419103231 ?_ ?_ HT_ rfl rfl (by kernel_rfl) (fun _ _ _ h => h) ?_ ?_ ?_ (pu 65 (some 112) 73786976294838206463 ?_ ?_ HT_ rfl rfl (by kernel_rfl) (fun _ _ _ h => h) ?_ ?_ ?_ (pu 66 (some 2) 147573952589676412927 ?_ ?_ HT_ rfl rfl (by kernel_rfl) (fun _ _ _ h => h) ?_ ?_ ?_ ?_)))))
    all_goals first | (rintro w' ⟨⟨⟨⟨⟨⟨⟨⟨⟨⟨⟨-, -⟩, -⟩, -⟩, ⟨s0, s1, s2, s3⟩⟩, ⟨s4, s5, s6, s7⟩⟩, -⟩, ⟨s8, s9, s10, s11⟩⟩, -⟩, -⟩, ⟨s12, s13, s14, s15⟩⟩, ⟨s16, s17, s18, s19⟩⟩; go_simp; with_reducible rfl) | (intro w'; go_simp; with_reducible rfl) | (simp only [Act.put, List.setIfInBounds_toArray, List.set_cons_zero, List.set_cons_succ, i64_w, i32_w]; rfl) | rfl | skip
    refine done_ (done_of HT_.out (by kernel_rfl)) ?_
    try go_wp2
    go_ret
    exact ⟨rfl, G.at_.1.1.1.1.1.1.1.1.1.1.1⟩
   | true =>
    refine (tk 62 (some 109) 9223372036854775807 ?_ ?_ HT_ HW_ rfl rfl (by kernel_rfl) (fun _ _ _ h => h) G.at_ ?_ ?_ ?_ ?_)
    all_goals first | (rintro w' ⟨⟨⟨⟨⟨⟨⟨⟨⟨⟨⟨-, -⟩, -⟩, -⟩, ⟨s0, s1, s2, s3⟩⟩, ⟨s4, s5, s6, s7⟩⟩, -⟩, ⟨s8, s9, s10, s11⟩⟩, -⟩, -⟩, ⟨s12, s13, s14, s15⟩⟩, ⟨s16, s17, s18, s19⟩⟩; go_simp; with_reducible rfl) | (intro w'; go_simp; with_reducible rfl) | (simp only [Act.put, List.setIfInBounds_toArray, List.set_cons_zero, List.set_cons_succ, i64_w, i32_w]; rfl) | rfl | skip
    refine rc 63 110 18446744073709551615 HT_ rfl rfl (by kernel_rfl) Try.func18 (by kernel_rfl) rfl rfl #[.agg #[.slice A17_0 lb.length c17_0, .int .i64 ms, .int .i64 eb, .string nb]] (by rfl) (by (try simp only [List.map_toArray, List.map_cons, List.map_nil]); first | done | rfl) ?_
    refine (impl_AlarmOk.calls k _ _ lb ms eb nb true _ G.at_.1.1.1.1.1.2 HCA17_0.out (F17.out rfl rfl)).mono ?_
    rintro e w1 ⟨rfl, hb⟩
    replace XA26_0 := XA26_0.go hb
    replace XA88_0 := XA88_0.go hb
    replace XA95_0 := XA95_0.go hb
    replace G := G.go hb; clear hb
    refine ⟨_, rfl, G.at_, ?_⟩; intro a' ha; simp only [Act.put, List.setIfInBounds_toArray, List.set_cons_zero, List.set_cons_succ, i64_w, i32_w] at ha; subst ha
    refine (pu 64 (some 111) 36893488147419103231 ?_ ?_ HT_ rfl rfl (by kernel_rfl) (fun _ _ _ h => h) ?_ ?_ ?_ (pu 65 (some 112) 73786976294838206463 ?_ ?_ HT_ rfl rfl (by kernel_rfl) (fun _ _ _ h => h) ?_ ?_ ?_ (pu 66 (some 2) 147573952589676412927 ?_ ?_ HT_ rfl rfl (by kernel_rfl) (fun _ _ _ h => h) ?_ ?_ ?_ ?_)))
    all_goals first | (rintro w' ⟨⟨⟨⟨⟨⟨⟨⟨⟨⟨⟨-, -⟩, -⟩, -⟩, ⟨s0, s1, s2, s3⟩⟩, ⟨s4, s5, s6, s7⟩⟩, -⟩, ⟨s8, s9, s10, s11⟩⟩, -⟩, -⟩, ⟨s12, s13, s14, s15⟩⟩, ⟨s16, s17, s18, s19⟩⟩; go_simp; with_reducible rfl) | (intro w'; go_simp; with_reducible rfl) | (simp only [Act.put, List.setIfInBounds_toArray, List.set_cons_zero, List.set_cons_succ, i64_w, i32_w]; rfl) | rfl | skip
    refine done_ (done_of HT_.out (by kernel_rfl)) ?_
    try go_wp2
    go_ret
    exact ⟨rfl, G.at_.1.1.1.1.1.1.1.1.1.1.1⟩
set_option maxHeartbeats 8000000 in
set_option maxRecDepth 100000 in
theorem laws_FnMerges.early (A0 : Option Addr) (c0 : Nat) (l0 : List Int) (w : World) (hr0 : Kd.C (Kd.int .u8) w A0 l0.length l0) (hc0 : l0.length ≤ c0)
  (F1 : Aside0 (laws_big.f l0 = some true)) :
  Calls Try.prog 3 #[.slice A0 l0.length c0] w fun e w' => e = .returned (.bool true) ∧ Below w.heap.size w w' := by
 have HC0 := aM hc0
 have G := (Gs.below w).add (Gs.row hr0)
 clear hc0 hr0
 go_enter Try.func3, Try.ntmps3
 go_wp2_with (first | ((with_reducible refine gate_callee (f := 9) rfl ?_); refine goesL_ (some 9) rfl rfl Try.func9 (by kernel_rfl) rfl #[.slice A0 l0.length c0] rfl (by (try simp only [List.map_toArray, List.map_cons, List.map_nil]); first | done | rfl) ?_; refine (laws_big.calls _ _ l0 true _ G.at_.2 HC0.out F1.out).mono ?_; rintro e w1 ⟨rfl, hb⟩; refine ⟨_, rfl, ?_⟩; have G1 := (G.go hb.below); clear G hb; have G := G1; clear G1))
 try go_wp2
 go_ret
 exact ⟨rfl, G.at_.1⟩
/-- What each call of the law gives, at rounds k. -/
def laws_FnMerges.Facts (k : Nat) (l0 : List Int) : Prop := laws_big.f l0 = some true ∨ ∃ (la : List (S89)) (sa : Int) (ea : Int) (na : ByteArray) (lb : List (S89)) (sb : Int) (eb : Int) (nb : ByteArray) (ms : Int) (lc : List (S89)) (sc : Int) (ec : Int) (nc : ByteArray) (ld : List (S89)) (sd : Int) (ed : Int) (nd : ByteArray) (tc : Bool) (tt : Bool) (oa : Bool) (ob : Bool),
  (laws_big.f l0 = some false) ∧
  (spec_DrawMerge.f k l0 = some (la, sa, ea, na, lb, sb, eb, nb)) ∧
  (impl_Merge.f la sa ea na lb sb eb nb = some (lb, ms, eb, nb)) ∧
  (spec_DrawTouch.f k l0 = some (lc, sc, ec, nc, ld, sd, ed, nd)) ∧
  (spec_Merge.f la sa ea na lb sb eb nb = some (lb, ms, eb, nb)) ∧
  (impl_SameAlarm.f k lb ms eb nb lb ms eb nb = some true) ∧
  (impl_Touch.f lc sc ec nc ld sd ed nd = some tc) ∧
  (spec_Touch.f lc sc ec nc ld sd ed nd = some tc) ∧
  (impl_Touch.f ld sd ed nd lc sc ec nc = some tc) ∧
  (impl_SameSet.f k lb lb = some true) ∧
  (impl_Touch.f la sa ea na lb sb eb nb = some tt) ∧
  (impl_Merge.f la sa ea na lb ms eb nb = some (lb, ms, eb, nb)) ∧
  (impl_Merge.f lb sb eb nb lb sb eb nb = some (lb, sb, eb, nb)) ∧
  (impl_SameAlarm.f k lb sb eb nb lb sb eb nb = some true) ∧
  (impl_AlarmOk.f k la sa ea na = some oa) ∧
  (impl_AlarmOk.f k lb sb eb nb = some ob) ∧
  (oa = true → ob = true → impl_AlarmOk.f k lb ms eb nb = some true) ∧
  ((tc != tc) = false) ∧
  ((eb == eb) = true) ∧
  ((nb.toList == nb.toList) = true) ∧
  (decide (ms ≤ sb) = true) ∧
  (tt = false → (ms == sb) = true)
def laws_FnMerges.Pure : Prop := ∀ (l0 : List Int), l0.length ≤ maxLen → l0.length * 1 ≤ 140737488351232 → (∀ x ∈ l0, (Lit.int .u8 x).wf = true) → ∃ k, laws_FnMerges.Facts k l0
theorem laws_FnMerges.walk (P : laws_FnMerges.Pure) (a0 : Option Addr) (len0 cap0 : Nat) (z0 : List Int) (w : World) (w0 : (a0 = none ∧ len0 = 0 ∧ cap0 = 0 ∧ z0 = []) ∨ ∃ x, a0 = some x ∧ len0 ≤ cap0 ∧ cap0 ≤ maxLen ∧ z0.length = cap0 ∧ (∀ i, i < z0.length → w.cell? (x.add i) = some (.int .u8 (z0.getD i 0))) ∧ ∀ n ∈ z0, (Lit.int .u8 n).wf = true) (y0 : len0 * 1 ≤ 140737488351232) :
  Calls Try.prog 3 #[.slice a0 len0 cap0] w fun e w' => e = .returned (.bool true) ∧ Below w.heap.size w w' := by
 obtain ⟨l0, rfl, hr0, hm0, hw0, hc0⟩ := ReadsInt.ofRowC w0
 obtain ⟨k, h⟩ := P l0 hm0 y0 hw0
 have hr := Kd.C_of_reads (d := (0 : Int)) (h1 := fun _ => rfl) hr0
 rcases h with h | h
 · exact laws_FnMerges.early _ _ l0 w hr hc0 ⟨h⟩
 · obtain ⟨la, sa, ea, na, lb, sb, eb, nb, ms, lc, sc, ec, nc, ld, sd, ed, nd, tc, tt, oa, ob, h_0, h_1, h_2, h_3, h_4, h_5, h_6, h_7, h_8, h_9, h_10, h_11, h_12, h_13, h_14, h_15, h_16, h_17, h_18, h_19, h_20, h_21⟩ := h
   exact laws_FnMerges.way k _ _ l0 w hr hc0 la sa ea na lb sb eb nb ms lc sc ec nc ld sd ed nd tc tt oa ob ⟨h_0⟩ ⟨h_1⟩ ⟨h_2⟩ ⟨h_3⟩ ⟨h_4⟩ ⟨h_5⟩ ⟨h_6⟩ ⟨h_7⟩ ⟨h_8⟩ ⟨h_9⟩ ⟨h_10⟩ ⟨h_11⟩ ⟨h_12⟩ ⟨h_13⟩ ⟨h_14⟩ ⟨h_15⟩ ⟨h_16⟩ ⟨h_17⟩ ⟨h_18⟩ ⟨h_19⟩ ⟨h_20⟩ ⟨h_21⟩
end Go.Proofs.Ytgindocfjoalhaa.PFnMerges
