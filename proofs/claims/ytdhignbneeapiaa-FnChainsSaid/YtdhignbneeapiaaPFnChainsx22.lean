/- That FnChains answers true, out of what each of its calls gives; no conditions. -/
import Derived.Test.YtdhignbneeapiaaPFnChainsx0
import Derived.Test.YtdhignbneeapiaaPFnChainsx1
import Derived.Test.YtdhignbneeapiaaPFnChainsx2
import Derived.Test.YtdhignbneeapiaaPFnChainsx3
import Derived.Test.YtdhignbneeapiaaPFnChainsx4
import Derived.Test.YtdhignbneeapiaaPFnChainsx5
import Derived.Test.YtdhignbneeapiaaPFnChainsx6
import Derived.Test.YtdhignbneeapiaaPFnChainsx7
import Derived.Test.YtdhignbneeapiaaPFnChainsx8
import Derived.Test.YtdhignbneeapiaaPFnChainsx9
import Derived.Test.YtdhignbneeapiaaPFnChainsx10
import Derived.Test.YtdhignbneeapiaaPFnChainsx11
import Derived.Test.YtdhignbneeapiaaPFnChainsx12
import Derived.Test.YtdhignbneeapiaaPFnChainsx13
import Derived.Test.YtdhignbneeapiaaPFnChainsx14
import Derived.Test.YtdhignbneeapiaaPFnChainsx15
import Derived.Test.YtdhignbneeapiaaPFnChainsx16
import Derived.Test.YtdhignbneeapiaaPFnChainsx17
import Derived.Test.YtdhignbneeapiaaPFnChainsx18
import Derived.Test.YtdhignbneeapiaaPFnChainsx19
import Derived.Test.YtdhignbneeapiaaPFnChainsx20
import Derived.Test.YtdhignbneeapiaaPFnChainsx21
namespace Go.Proofs.Ytdhignbneeapiaa.PFnChains
open Go.Proofs.Ytdhignbneeapiaa
open Go.RowKit Go.Proofs.YtdhignbneeapiaaW.PrintWords Go.Proofs.YtdhignbneeapiaaW.PrintLast Go.Proofs.YtdhignbneeapiaaW.PrintMore
attribute [local go_sem] max2_int min2_int max_two min_two max_three min_three max_four min_four   -- for this text's walks alone
set_option linter.unusedVariables false
set_option linter.unusedSimpArgs false
set_option maxHeartbeats 8000000
set_option maxRecDepth 100000
def laws_FnChains.T12 : Bool × List (List Nat × List Nat) := (true, [([], []), ([], []), ([0, 1], [0, 1]), ([2], [2]), ([3, 2], [3]), ([4], [4]), ([4], [4]), ([5, 6, 4], [4, 5, 6]), ([4, 7], [4, 7]), ([8, 4], [8]), ([9], [9]), ([10, 9, 9], [9, 10]), ([9], [9]), ([12, 11, 9], [9, 12]), ([11, 13, 9], [9, 11, 13]), ([9, 14], [9, 14]), ([15, 13], [15]), ([16], [16]), ([16], [16]), ([17, 18, 16, 16], [16, 17, 18]), ([16], [16]), ([16], [16]), ([20, 21, 19, 16], [16, 20, 21]), ([19, 22, 16], [16, 19, 22]), ([16, 23], [16, 23]), ([24, 22], [24]), ([25], [25]), ([25], [25]), ([26, 27, 25, 25], [25, 26, 27]), ([28, 25], [25, 28]), ([25, 29], [25, 29]), ([30, 28], [30]), ([31], [31]), ([31], [31]), ([32, 33, 31, 31], [31, 32, 33]), ([34, 31], [31, 34]), ([31, 35], [31, 35]), ([36, 34], [36]), ([37], [37]), ([37], [37]), ([38, 39, 37, 37], [37, 38, 39]), ([37], [37]), ([37], [37]), ([41, 42, 40, 37], [37, 41, 42]), ([40, 43, 37], [37, 40, 43]), ([37, 44], [37, 44])])
def laws_FnChains.B12 : List Nat := [0, 0, 3, 7, 15, 31, 31, 127, 255, 511, 1023, 2047, 1023, 8191, 16383, 32767, 65535, 131071, 131071, 524287, 131071, 131071, 4194303, 8388607, 16777215, 33554431, 67108863, 67108863, 268435455, 536870911, 1073741823, 2147483647, 4294967295, 4294967295, 17179869183, 34359738367, 68719476735, 137438953471, 274877906943, 274877906943, 1099511627775, 274877906943, 274877906943, 8796093022207, 17592186044415, 35184372088831]
theorem laws_FnChains.tab12 : rtab .any (opsOf Try.f3 12) = laws_FnChains.T12 := by kernel_rfl
theorem laws_FnChains.bits12 : waitsOk laws_FnChains.T12.2 laws_FnChains.B12 = true := by kernel_rfl
def laws_FnChains.T21 : Bool × List (List Nat × List Nat) := (true, [([], []), ([], []), ([0, 1], [0, 1]), ([2], [2]), ([3], [3]), ([4, 3], [3, 4]), ([3], [3]), ([5, 6, 3], [3, 5, 6]), ([7, 3], [3, 7]), ([3], [3]), ([9, 3], [3, 9]), ([3], [3]), ([10, 11, 3], [3, 10, 11]), ([12, 3], [3, 12]), ([8, 13, 3, 3], [3, 8, 13]), ([14, 3], [3, 14]), ([3, 15], [3, 15])])
def laws_FnChains.B21 : List Nat := [0, 0, 3, 7, 15, 31, 15, 127, 255, 15, 527, 15, 3599, 7695, 16383, 32767, 65535]
theorem laws_FnChains.tab21 : rtab .any (opsOf Try.f3 21) = laws_FnChains.T21 := by kernel_rfl
theorem laws_FnChains.bits21 : waitsOk laws_FnChains.T21.2 laws_FnChains.B21 = true := by kernel_rfl
def laws_FnChains.T23 : Bool × List (List Nat × List Nat) := (true, [([], []), ([0], [0]), ([1], [1]), ([2], [2]), ([3, 2], [2, 3]), ([4, 2], [2, 4]), ([2], [2]), ([6, 2], [2, 6]), ([7, 2], [2, 7]), ([8, 2], [2, 8]), ([5, 9, 2], [2, 5, 9]), ([2, 10], [2, 10]), ([11, 2], [11]), ([12], [12]), ([13, 12], [12, 13]), ([12], [12]), ([14, 15, 12], [12, 14, 15]), ([16, 12], [12, 16]), ([12], [12]), ([17, 18, 12, 12], [12, 17, 18]), ([12, 19], [12, 19]), ([20, 19], [20]), ([21], [21]), ([22, 21], [21, 22]), ([23, 21, 21], [21, 23]), ([24], [24]), ([25, 24], [24, 25]), ([26, 24], [24, 26]), ([24], [24]), ([28, 24], [24, 28]), ([29, 24], [24, 29]), ([27, 30, 24], [24, 27, 30]), ([24, 31, 21], [21, 24, 31]), ([32, 24, 21], [21, 32]), ([33], [33]), ([34, 33], [33, 34]), ([33], [33]), ([35, 36, 33], [33, 35, 36]), ([37, 33], [33, 37]), ([33], [33]), ([39, 33], [33, 39]), ([33], [33]), ([40, 41, 33], [33, 40, 41]), ([42, 33], [33, 42]), ([33], [33]), ([43, 44, 33, 33], [33, 43, 44]), ([38, 45, 45, 33], [33, 38, 45]), ([33, 46, 21], [21, 33, 46]), ([21, 47], [21, 47]), ([48, 46, 0, 1, 2, 3, 4, 5, 6, 7, 8, 9, 10, 11, 12, 13, 14, 15, 16, 17, 18, 19, 20, 21, 22, 23, 24, 25, 26, 27, 28, 29, 30, 31, 32, 33, 34, 35, 36, 37, 38, 39, 40, 41, 42, 43, 44, 45, 46, 47, 48], [48])])
def laws_FnChains.B23 : List Nat := [0, 1, 3, 7, 15, 31, 7, 71, 199, 455, 1023, 2047, 4095, 8191, 16383, 8191, 65535, 131071, 8191, 524287, 1048575, 2097151, 4194303, 8388607, 16777215, 33554431, 67108863, 134217727, 33554431, 301989887, 838860799, 2147483647, 4294967295, 8589934591, 17179869183, 34359738367, 17179869183, 137438953471, 274877906943, 17179869183, 566935683071, 17179869183, 3865470566399, 8263517077503, 17179869183, 34651796144127, 70368744177663, 140737488355327, 281474976710655, 562949953421311]
theorem laws_FnChains.tab23 : rtab .any (opsOf Try.f3 23) = laws_FnChains.T23 := by kernel_rfl
theorem laws_FnChains.bits23 : waitsOk laws_FnChains.T23.2 laws_FnChains.B23 = true := by kernel_rfl
theorem laws_FnChains.way (k : Nat) (A0 : Option Addr) (c0 : Nat) (l0 : List Int) (w : World) (hr0 : Kd.C (Kd.int .u8) w A0 l0.length l0) (hc0 : l0.length ≤ c0) (fc : Int) (lc : List (S29)) (la : List (S76)) (sa : Int) (ea : Int) (na : ByteArray) (fx : Int) (lx : List (S29)) (fresh : Bool) (fy : Int) (ly : List (S29)) (fo : Int) (lo : List (S29)) (fu : Int) (lu : List (S29)) (fv : Int) (lv : List (S29)) (fd : Int) (ld : List (S29)) (now : Int) (fe : Int) (le : List (S29)) (lg : List (S29)) (ff : Int) (lf : List (S29)) (lw : List (S29)) (fg : Int) (lh : List (S29)) (ll : List (S76)) (oo : Bool) (ss : Bool) (gi : Int) (kc : Int) (ix : Int) (lm : List (S76)) (sm : Int) (em : Int) (nm : ByteArray)
  (F1 : Aside0 (laws_big.f l0 = some false))
  (F2 : Aside0 (spec_DrawPutChain.f k l0 = some (fc, lc, la, sa, ea, na)))
  (F3 : Aside0 (impl_PutChain.f k fc lc la sa ea na = some (fx, lx, fresh)))
  (F4 : Aside0 (spec_PutChain.f k fc lc la sa ea na = some (fy, ly, fresh)))
  (F5 : Aside0 (spec_DrawChainOk.f k l0 = some (fo, lo)))
  (F6 : Aside0 (spec_DrawSameChain.f k l0 = some (fu, lu, fv, lv)))
  (F7 : Aside0 (spec_DrawDropOver.f k l0 = some (fd, ld, now)))
  (F8 : Aside0 (impl_DropOver4.f k fd ld now = some (fe, le, lg)))
  (F9 : Aside0 (spec_DropOver.f k fd ld now = some (ff, lf, lw)))
  (F10 : Aside0 (spec_DrawInChain.f k l0 = some (fg, lh, ll)))
  (F11 : Aside0 (impl_SameChain.f k fx lx fy ly = some true))
  (F12 : Aside0 (impl_ChainOk.f k fo lo = some oo))
  (F13 : Aside0 (spec_ChainOk.f k fo lo = some oo))
  (F14 : Aside0 (impl_SameChain.f k fu lu fv lv = some ss))
  (F15 : Aside0 (spec_SameChain.f k fu lu fv lv = some ss))
  (F16 : Aside0 (impl_SameChain.f k fe le ff lf = some true))
  (F17 : Aside0 (laws_sameList.f k lg lw = some true))
  (F18 : Aside0 (impl_InChain.f k fg lh ll = some gi))
  (F19 : Aside0 (spec_InChain.f k fg lh ll = some gi))
  (F20 : Aside0 (impl_InChain.f k fc lc la = some kc))
  (F21 : Aside0 (impl_InChain.f k fx lx la = some ix))
  (F22 : Aside0 (kc < 0 → impl_SameAlarm.f k ((rd_T29 lx ix).f0) ((rd_T29 lx ix).f1) ((rd_T29 lx ix).f2) ((rd_T29 lx ix).f3) la sa ea na = some true))
  (F23 : Aside0 (0 ≤ kc → impl_Merge.f ((rd_T29 lc kc).f0) ((rd_T29 lc kc).f1) ((rd_T29 lc kc).f2) ((rd_T29 lc kc).f3) la sa ea na = some (lm, sm, em, nm)))
  (F24 : Aside0 (0 ≤ kc → impl_SameAlarm.f k ((rd_T29 lx ix).f0) ((rd_T29 lx ix).f1) ((rd_T29 lx ix).f2) ((rd_T29 lx ix).f3) lm sm em nm = some true))
  (K0 : Aside0 ((fresh != fresh) = false))
  (K1 : Aside0 ((oo != oo) = false))
  (K2 : Aside0 ((ss != ss) = false))
  (K3 : Aside0 ((gi != gi) = false))
  (K4 : Aside0 (decide (ix < 0) = false))
  (K5 : Aside0 ((fresh != decide (kc < 0)) = false))
  (K6 : Aside0 ((wrap64 ((lg.length : Int) + (le.length : Int)) != (ld.length : Int)) = false))
  (K7 : Aside0 (lc.length ≤ lx.length))
  (K8 : Aside0 (∀ m : Nat, m < lc.length → ((m : Int) != kc) = true → impl_SameAlarm.f k (rd_T29 lx (m : Int)).f0 (rd_T29 lx (m : Int)).f1 (rd_T29 lx (m : Int)).f2 (rd_T29 lx (m : Int)).f3 (rd_T29 lc (m : Int)).f0 (rd_T29 lc (m : Int)).f1 (rd_T29 lc (m : Int)).f2 (rd_T29 lc (m : Int)).f3 = some true))
  (K9 : Aside0 (ix < (lx.length : Int)))
  (K10 : Aside0 (kc < 0 → ((lx.length : Int) == wrap64 ((lc.length : Int) + 1)) = true))
  (K11 : Aside0 (0 ≤ kc → kc < (lc.length : Int)))
  (K12 : Aside0 (0 ≤ kc → ((lx.length : Int) == (lc.length : Int)) = true)) :
  Calls Try.prog 3 #[.slice A0 l0.length c0] w fun e w' => e = .returned (.bool true) ∧ Below w.heap.size w w' := by
 have HC0 := aM hc0
 have G := (Gs.below w).add (Gs.row hr0)
 clear hc0 hr0
 go_enter Try.func3, Try.ntmps3
 go_upto_region 3 with (first | (refine gl_ (some 24) Try.func4 #[.slice A0 l0.length c0] ?_; refine (laws_big.calls _ _ l0 false _ G.at_.2 HC0.out F1.out).mono ?_; rintro e w1 ⟨rfl, hb⟩; refine ⟨_, rfl, ?_⟩; have G1 := (G.go hb.below); clear G hb; have G := G1; clear G1))
 go_upto_region 4 with (first | (refine gl_ (some 27) Try.func5 #[.slice A0 l0.length c0] ?_; refine (spec_DrawPutChain.calls k _ _ l0 fc lc la sa ea na _ G.at_.2 HC0.out F2.out).mono ?_; rintro e w1 ⟨v27_0, v27_1, rfl, ho27_0, ho27_1, hb⟩; refine ⟨_, rfl, ?_⟩; obtain ⟨A27_0, c27_0, rfl, hcA27_0, hCA27_0⟩ := Kd.S_reads ho27_0; clear ho27_0; have HCA27_0 := aM hcA27_0; clear hcA27_0; obtain ⟨A27_1, c27_1, rfl, hcA27_1, hCA27_1⟩ := Kd.R_reads ho27_1; clear ho27_1; have HCA27_1 := aM hcA27_1; clear hcA27_1; have G1 := (((G.go hb).add (Gs.row hCA27_0)).add (Gs.row hCA27_1)); clear G hb hCA27_0 hCA27_1; have G := G1; clear G1) | (refine be_ 3 #[.int .i64 0, .slice none 0 0] 26 ?_; intro g3 hg w2 hbox hb; have HB_g3 := aM hb; have HE_g3 := aM hg; have BK_g3 := aM hbox; clear hb hg hbox) | (refine be_ 4 #[.slice none 0 0, .int .i64 0, .int .i64 0, .string (⟨#[]⟩ : ByteArray)] 29 ?_; intro g4 hg w2 hbox hb; have HB_g4 := aM hb; have HE_g4 := aM hg; have BK_g4 := aM hbox; clear hb hg hbox; have zg3_0 := cz2_0 ⟨blk_below (BK_g3.out) HB_g4.out⟩; have yg3_0 := blk_frozen (blk_below (BK_g3.out) HB_g4.out) 0; have zg3_1 := cz2_1 ⟨blk_below (BK_g3.out) HB_g4.out⟩; have yg3_1 := blk_frozen (blk_below (BK_g3.out) HB_g4.out) 1; have zg4_0 := cz4_0 ⟨BK_g4.out⟩; have yg4_0 := blk_frozen (BK_g4.out) 0; have zg4_1 := cz4_1 ⟨BK_g4.out⟩; have yg4_1 := blk_frozen (BK_g4.out) 1; have zg4_2 := cz4_2 ⟨BK_g4.out⟩; have yg4_2 := blk_frozen (BK_g4.out) 2; have zg4_3 := cz4_3 ⟨BK_g4.out⟩; have yg4_3 := blk_frozen (BK_g4.out) 3; have ng3g4 : g3 ≠ g4 := (by rw [HE_g4.out]; exact Nat.ne_of_lt (blk_lt BK_g3.out)); have ng4g3 : g4 ≠ g3 := fun h_ => ng3g4 h_.symm))
 have G1 := Gs.put24 (.int .i64 fc) (.slice A27_0 lc.length c27_0) (.slice A27_1 la.length c27_1) (.int .i64 sa) (.int .i64 ea) (.string na) G HB_g3 HE_g3 BK_g3 HB_g4 HE_g4 BK_g4
 clear G; have G := G1; clear G1
 generalize ((((((w2.setCell ⟨g3, 0, none⟩ (.int .i64 fc)).setCell ⟨g3, 1, none⟩ (.slice A27_0 lc.length c27_0)).setCell ⟨g4, 0, none⟩ (.slice A27_1 la.length c27_1)).setCell ⟨g4, 1, none⟩ (.int .i64 sa)).setCell ⟨g4, 2, none⟩ (.int .i64 ea)).setCell ⟨g4, 3, none⟩ (.string na)) = w3 at G ⊢
 clear zg3_0 yg3_0 zg3_1 yg3_1 zg4_0 yg4_0 zg4_1 yg4_1 zg4_2 yg4_2 zg4_3 yg4_3 ng3g4 ng4g3
 clear HB_g4 HE_g4 BK_g4 HB_g3 HE_g3 BK_g3
 obtain ⟨zg3_0, zg3_1⟩ := G.at_.1.2
 obtain ⟨zg4_0, zg4_1, zg4_2, zg4_3⟩ := G.at_.2
 go_upto_region 5 with (first | (refine gl_ (some 33) Try.func6 #[.agg #[.int .i64 fc, .slice A27_0 lc.length c27_0], .agg #[.slice A27_1 la.length c27_1, .int .i64 sa, .int .i64 ea, .string na]] ?_; refine (impl_PutChain.calls k fc _ _ lc _ _ la sa ea na fx lx fresh _ G.at_.1.1.1.2 HCA27_0.out G.at_.1.1.2 HCA27_1.out F3.out).mono ?_; rintro e w1 ⟨v33_0, rfl, ho33_0, hb⟩; refine ⟨_, rfl, ?_⟩; obtain ⟨A33_0, c33_0, rfl, hcA33_0, hCA33_0⟩ := Kd.S_reads ho33_0; clear ho33_0; have HCA33_0 := aM hcA33_0; clear hcA33_0; have G1 := ((G.go hb).add (Gs.row hCA33_0)); clear G hb hCA33_0; have G := G1; clear G1) | (refine be_ 5 #[.int .i64 0, .slice none 0 0] 26 ?_; intro g5 hg w2 hbox hb; have HB_g5 := aM hb; have HE_g5 := aM hg; have BK_g5 := aM hbox; clear hb hg hbox; have zg5_0 := cz2_0 ⟨BK_g5.out⟩; have yg5_0 := blk_frozen (BK_g5.out) 0; have zg5_1 := cz2_1 ⟨BK_g5.out⟩; have yg5_1 := blk_frozen (BK_g5.out) 1))
 clear zg3_0 zg3_1 zg4_0 zg4_1 zg4_2 zg4_3
 have G1 := Gs.put2 (.int .i64 fx) (.slice A33_0 lx.length c33_0) G HB_g5 HE_g5 BK_g5
 clear G; have G := G1; clear G1
 generalize ((w2.setCell ⟨g5, 0, none⟩ (.int .i64 fx)).setCell ⟨g5, 1, none⟩ (.slice A33_0 lx.length c33_0)) = w3 at G ⊢
 clear zg5_0 yg5_0 zg5_1 yg5_1
 clear HB_g5 HE_g5 BK_g5
 obtain ⟨zg3_0, zg3_1⟩ := G.at_.1.1.1.2
 obtain ⟨zg4_0, zg4_1, zg4_2, zg4_3⟩ := G.at_.1.1.2
 go_upto_region 6 with (first | (refine gl_ (some 39) Try.func7 #[.agg #[.int .i64 fc, .slice A27_0 lc.length c27_0], .agg #[.slice A27_1 la.length c27_1, .int .i64 sa, .int .i64 ea, .string na]] ?_; refine (spec_PutChain.calls k fc _ _ lc _ _ la sa ea na fy ly fresh _ G.at_.1.1.1.1.1.2 HCA27_0.out G.at_.1.1.1.1.2 HCA27_1.out F4.out).mono ?_; rintro e w1 ⟨v39_0, rfl, ho39_0, hb⟩; refine ⟨_, rfl, ?_⟩; obtain ⟨A39_0, c39_0, rfl, hcA39_0, hCA39_0⟩ := Kd.S_reads ho39_0; clear ho39_0; have HCA39_0 := aM hcA39_0; clear hcA39_0; have G1 := ((G.go hb).add (Gs.row hCA39_0)); clear G hb hCA39_0; have G := G1; clear G1) | (refine be_ 7 #[.int .i64 0, .slice none 0 0] 26 ?_; intro g7 hg w2 hbox hb; have HB_g7 := aM hb; have HE_g7 := aM hg; have BK_g7 := aM hbox; clear hb hg hbox; have zg7_0 := cz2_0 ⟨BK_g7.out⟩; have yg7_0 := blk_frozen (BK_g7.out) 0; have zg7_1 := cz2_1 ⟨BK_g7.out⟩; have yg7_1 := blk_frozen (BK_g7.out) 1))
 clear zg3_0 zg3_1 zg4_0 zg4_1 zg4_2 zg4_3
 have G1 := Gs.put2 (.int .i64 fy) (.slice A39_0 ly.length c39_0) G HB_g7 HE_g7 BK_g7
 clear G; have G := G1; clear G1
 generalize ((w2.setCell ⟨g7, 0, none⟩ (.int .i64 fy)).setCell ⟨g7, 1, none⟩ (.slice A39_0 ly.length c39_0)) = w3 at G ⊢
 clear zg7_0 yg7_0 zg7_1 yg7_1
 clear HB_g7 HE_g7 BK_g7
 go_upto_region 7 with (first | (refine gl_ (some 43) Try.func8 #[.slice A0 l0.length c0] ?_; refine (spec_DrawChainOk.calls k _ _ l0 fo lo _ G.at_.1.1.1.1.1.1.1.1.2 HC0.out F5.out).mono ?_; rintro e w1 ⟨v43_0, rfl, ho43_0, hb⟩; refine ⟨_, rfl, ?_⟩; obtain ⟨A43_0, c43_0, rfl, hcA43_0, hCA43_0⟩ := Kd.S_reads ho43_0; clear ho43_0; have HCA43_0 := aM hcA43_0; clear hcA43_0; have G1 := ((G.go hb).add (Gs.row hCA43_0)); clear G hb hCA43_0; have G := G1; clear G1) | (refine be_ 9 #[.int .i64 0, .slice none 0 0] 26 ?_; intro g9 hg w2 hbox hb; have HB_g9 := aM hb; have HE_g9 := aM hg; have BK_g9 := aM hbox; clear hb hg hbox; have zg9_0 := cz2_0 ⟨BK_g9.out⟩; have yg9_0 := blk_frozen (BK_g9.out) 0; have zg9_1 := cz2_1 ⟨BK_g9.out⟩; have yg9_1 := blk_frozen (BK_g9.out) 1))
 have G1 := Gs.put2 (.int .i64 fo) (.slice A43_0 lo.length c43_0) G HB_g9 HE_g9 BK_g9
 clear G; have G := G1; clear G1
 generalize ((w2.setCell ⟨g9, 0, none⟩ (.int .i64 fo)).setCell ⟨g9, 1, none⟩ (.slice A43_0 lo.length c43_0)) = w3 at G ⊢
 clear zg9_0 yg9_0 zg9_1 yg9_1
 clear HB_g9 HE_g9 BK_g9
 go_upto_region 8 with (first | (refine gl_ (some 46) Try.func9 #[.slice A0 l0.length c0] ?_; refine (spec_DrawSameChain.calls k _ _ l0 fu lu fv lv _ G.at_.1.1.1.1.1.1.1.1.1.1.2 HC0.out F6.out).mono ?_; rintro e w1 ⟨v46_0, v46_1, rfl, ho46_0, ho46_1, hb⟩; refine ⟨_, rfl, ?_⟩; obtain ⟨A46_0, c46_0, rfl, hcA46_0, hCA46_0⟩ := Kd.S_reads ho46_0; clear ho46_0; have HCA46_0 := aM hcA46_0; clear hcA46_0; obtain ⟨A46_1, c46_1, rfl, hcA46_1, hCA46_1⟩ := Kd.S_reads ho46_1; clear ho46_1; have HCA46_1 := aM hcA46_1; clear hcA46_1; have G1 := (((G.go hb).add (Gs.row hCA46_0)).add (Gs.row hCA46_1)); clear G hb hCA46_0 hCA46_1; have G := G1; clear G1) | (refine be_ 10 #[.int .i64 0, .slice none 0 0] 26 ?_; intro g10 hg w2 hbox hb; have HB_g10 := aM hb; have HE_g10 := aM hg; have BK_g10 := aM hbox; clear hb hg hbox) | (refine be_ 11 #[.int .i64 0, .slice none 0 0] 26 ?_; intro g11 hg w2 hbox hb; have HB_g11 := aM hb; have HE_g11 := aM hg; have BK_g11 := aM hbox; clear hb hg hbox; have zg10_0 := cz2_0 ⟨blk_below (BK_g10.out) HB_g11.out⟩; have yg10_0 := blk_frozen (blk_below (BK_g10.out) HB_g11.out) 0; have zg10_1 := cz2_1 ⟨blk_below (BK_g10.out) HB_g11.out⟩; have yg10_1 := blk_frozen (blk_below (BK_g10.out) HB_g11.out) 1; have zg11_0 := cz2_0 ⟨BK_g11.out⟩; have yg11_0 := blk_frozen (BK_g11.out) 0; have zg11_1 := cz2_1 ⟨BK_g11.out⟩; have yg11_1 := blk_frozen (BK_g11.out) 1; have ng10g11 : g10 ≠ g11 := (by rw [HE_g11.out]; exact Nat.ne_of_lt (blk_lt BK_g10.out)); have ng11g10 : g11 ≠ g10 := fun h_ => ng10g11 h_.symm))
 have G1 := Gs.put22 (.int .i64 fu) (.slice A46_0 lu.length c46_0) (.int .i64 fv) (.slice A46_1 lv.length c46_1) G HB_g10 HE_g10 BK_g10 HB_g11 HE_g11 BK_g11
 clear G; have G := G1; clear G1
 generalize ((((w2.setCell ⟨g10, 0, none⟩ (.int .i64 fu)).setCell ⟨g10, 1, none⟩ (.slice A46_0 lu.length c46_0)).setCell ⟨g11, 0, none⟩ (.int .i64 fv)).setCell ⟨g11, 1, none⟩ (.slice A46_1 lv.length c46_1)) = w3 at G ⊢
 clear zg10_0 yg10_0 zg10_1 yg10_1 zg11_0 yg11_0 zg11_1 yg11_1 ng10g11 ng11g10
 clear HB_g11 HE_g11 BK_g11 HB_g10 HE_g10 BK_g10
 go_upto_region 9 with (first | (refine gl_ (some 51) Try.func10 #[.slice A0 l0.length c0] ?_; refine (spec_DrawDropOver.calls k _ _ l0 fd ld now _ G.at_.1.1.1.1.1.1.1.1.1.1.1.1.1.1.2 HC0.out F7.out).mono ?_; rintro e w1 ⟨v51_0, rfl, ho51_0, hb⟩; refine ⟨_, rfl, ?_⟩; obtain ⟨A51_0, c51_0, rfl, hcA51_0, hCA51_0⟩ := Kd.S_reads ho51_0; clear ho51_0; have HCA51_0 := aM hcA51_0; clear hcA51_0; have G1 := ((G.go hb).add (Gs.row hCA51_0)); clear G hb hCA51_0; have G := G1; clear G1) | (refine be_ 12 #[.int .i64 0, .slice none 0 0] 26 ?_; intro g12 hg w2 hbox hb; have HB_g12 := aM hb; have HE_g12 := aM hg; have BK_g12 := aM hbox; clear hb hg hbox; have zg12_0 := cz2_0 ⟨BK_g12.out⟩; have yg12_0 := blk_frozen (BK_g12.out) 0; have zg12_1 := cz2_1 ⟨BK_g12.out⟩; have yg12_1 := blk_frozen (BK_g12.out) 1))
 have G1 := Gs.put2 (.int .i64 fd) (.slice A51_0 ld.length c51_0) G HB_g12 HE_g12 BK_g12
 clear G; have G := G1; clear G1
 generalize ((w2.setCell ⟨g12, 0, none⟩ (.int .i64 fd)).setCell ⟨g12, 1, none⟩ (.slice A51_0 ld.length c51_0)) = w3 at G ⊢
 clear zg12_0 yg12_0 zg12_1 yg12_1
 clear HB_g12 HE_g12 BK_g12
 obtain ⟨zg12_0, zg12_1⟩ := G.at_.2
 go_upto_region 10 with (first | (refine gl_ (some 57) Try.func11 #[.agg #[.int .i64 fd, .slice A51_0 ld.length c51_0], .int .i64 now] ?_; refine (impl_DropOver4.calls k fd _ _ ld now fe le lg _ G.at_.1.2 HCA51_0.out F8.out).mono ?_; rintro e w1 ⟨v57_0, v57_1, rfl, ho57_0, ho57_1, hb⟩; refine ⟨_, rfl, ?_⟩; obtain ⟨A57_0, c57_0, rfl, hcA57_0, hCA57_0⟩ := Kd.S_reads ho57_0; clear ho57_0; have HCA57_0 := aM hcA57_0; clear hcA57_0; obtain ⟨A57_1, c57_1, rfl, hcA57_1, hCA57_1⟩ := Kd.S_reads ho57_1; clear ho57_1; have HCA57_1 := aM hcA57_1; clear hcA57_1; have G1 := (((G.go hb).add (Gs.row hCA57_0)).add (Gs.row hCA57_1)); clear G hb hCA57_0 hCA57_1; have G := G1; clear G1) | (refine be_ 14 #[.int .i64 0, .slice none 0 0] 26 ?_; intro g14 hg w2 hbox hb; have HB_g14 := aM hb; have HE_g14 := aM hg; have BK_g14 := aM hbox; clear hb hg hbox; have zg14_0 := cz2_0 ⟨BK_g14.out⟩; have yg14_0 := blk_frozen (BK_g14.out) 0; have zg14_1 := cz2_1 ⟨BK_g14.out⟩; have yg14_1 := blk_frozen (BK_g14.out) 1))
 clear zg12_0 zg12_1
 have G1 := Gs.put2 (.int .i64 fe) (.slice A57_0 le.length c57_0) G HB_g14 HE_g14 BK_g14
 clear G; have G := G1; clear G1
 generalize ((w2.setCell ⟨g14, 0, none⟩ (.int .i64 fe)).setCell ⟨g14, 1, none⟩ (.slice A57_0 le.length c57_0)) = w3 at G ⊢
 clear zg14_0 yg14_0 zg14_1 yg14_1
 clear HB_g14 HE_g14 BK_g14
 obtain ⟨zg12_0, zg12_1⟩ := G.at_.1.1.1.2
 go_upto_region 11 with (first | (refine gl_ (some 63) Try.func12 #[.agg #[.int .i64 fd, .slice A51_0 ld.length c51_0], .int .i64 now] ?_; refine (spec_DropOver.calls k fd _ _ ld now ff lf lw _ G.at_.1.1.1.1.2 HCA51_0.out F9.out).mono ?_; rintro e w1 ⟨v63_0, v63_1, rfl, ho63_0, ho63_1, hb⟩; refine ⟨_, rfl, ?_⟩; obtain ⟨A63_0, c63_0, rfl, hcA63_0, hCA63_0⟩ := Kd.S_reads ho63_0; clear ho63_0; have HCA63_0 := aM hcA63_0; clear hcA63_0; obtain ⟨A63_1, c63_1, rfl, hcA63_1, hCA63_1⟩ := Kd.S_reads ho63_1; clear ho63_1; have HCA63_1 := aM hcA63_1; clear hcA63_1; have G1 := (((G.go hb).add (Gs.row hCA63_0)).add (Gs.row hCA63_1)); clear G hb hCA63_0 hCA63_1; have G := G1; clear G1) | (refine be_ 16 #[.int .i64 0, .slice none 0 0] 26 ?_; intro g16 hg w2 hbox hb; have HB_g16 := aM hb; have HE_g16 := aM hg; have BK_g16 := aM hbox; clear hb hg hbox; have zg16_0 := cz2_0 ⟨BK_g16.out⟩; have yg16_0 := blk_frozen (BK_g16.out) 0; have zg16_1 := cz2_1 ⟨BK_g16.out⟩; have yg16_1 := blk_frozen (BK_g16.out) 1))
 clear zg12_0 zg12_1
 have G1 := Gs.put2 (.int .i64 ff) (.slice A63_0 lf.length c63_0) G HB_g16 HE_g16 BK_g16
 clear G; have G := G1; clear G1
 generalize ((w2.setCell ⟨g16, 0, none⟩ (.int .i64 ff)).setCell ⟨g16, 1, none⟩ (.slice A63_0 lf.length c63_0)) = w3 at G ⊢
 clear zg16_0 yg16_0 zg16_1 yg16_1
 clear HB_g16 HE_g16 BK_g16
 go_upto_region 12 with (first | (refine gl_ (some 68) Try.func13 #[.slice A0 l0.length c0] ?_; refine (spec_DrawInChain.calls k _ _ l0 fg lh ll _ G.at_.1.1.1.1.1.1.1.1.1.1.1.1.1.1.1.1.1.1.1.1.1.1.2 HC0.out F10.out).mono ?_; rintro e w1 ⟨v68_0, v68_1, rfl, ho68_0, ho68_1, hb⟩; refine ⟨_, rfl, ?_⟩; obtain ⟨A68_0, c68_0, rfl, hcA68_0, hCA68_0⟩ := Kd.S_reads ho68_0; clear ho68_0; have HCA68_0 := aM hcA68_0; clear hcA68_0; obtain ⟨A68_1, c68_1, rfl, hcA68_1, hCA68_1⟩ := Kd.R_reads ho68_1; clear ho68_1; have HCA68_1 := aM hcA68_1; clear hcA68_1; have G1 := (((G.go hb).add (Gs.row hCA68_0)).add (Gs.row hCA68_1)); clear G hb hCA68_0 hCA68_1; have G := G1; clear G1) | (refine be_ 18 #[.int .i64 0, .slice none 0 0] 26 ?_; intro g18 hg w2 hbox hb; have HB_g18 := aM hb; have HE_g18 := aM hg; have BK_g18 := aM hbox; clear hb hg hbox; have zg18_0 := cz2_0 ⟨BK_g18.out⟩; have yg18_0 := blk_frozen (BK_g18.out) 0; have zg18_1 := cz2_1 ⟨BK_g18.out⟩; have yg18_1 := blk_frozen (BK_g18.out) 1))
 have G1 := Gs.put2 (.int .i64 fg) (.slice A68_0 lh.length c68_0) G HB_g18 HE_g18 BK_g18
 clear G; have G := G1; clear G1
 generalize ((w2.setCell ⟨g18, 0, none⟩ (.int .i64 fg)).setCell ⟨g18, 1, none⟩ (.slice A68_0 lh.length c68_0)) = w3 at G ⊢
 clear zg18_0 yg18_0 zg18_1 yg18_1
 clear HB_g18 HE_g18 BK_g18
 refine reg G (by kernel_rfl) rfl laws_FnChains.tab12 laws_FnChains.bits12 (fun wr hbr G' HT_ HW_ => ?_)
 clear G; have G := G'; clear G'
 clear hbr
 refine (tk 0 (some 71) 1 ?_ ?_ HT_ HW_ G.at_ ?_ ?_ ?_ (tk 1 (some 72) 3 ?_ ?_ HT_ HW_ G.at_ ?_ ?_ ?_ ?_))
 all_goals first | (rintro w' ⟨⟨⟨⟨⟨⟨⟨⟨⟨⟨⟨⟨⟨⟨⟨⟨⟨⟨⟨⟨⟨⟨⟨⟨⟨⟨-, -⟩, -⟩, -⟩, ⟨s0, s1⟩⟩, ⟨s2, s3, s4, s5⟩⟩, -⟩, ⟨s6, s7⟩⟩, -⟩, ⟨s8, s9⟩⟩, -⟩, ⟨s10, s11⟩⟩, -⟩, -⟩, ⟨s12, s13⟩⟩, ⟨s14, s15⟩⟩, -⟩, ⟨s16, s17⟩⟩, -⟩, -⟩, ⟨s18, s19⟩⟩, -⟩, -⟩, ⟨s20, s21⟩⟩, -⟩, -⟩, ⟨s22, s23⟩⟩; go_simp; with_reducible rfl) | (intro w'; go_simp; with_reducible rfl) | (simp only [u6_]; rfl) | rfl | skip
 refine rc 2 73 7 HT_ rfl rfl (by kernel_rfl) Try.func14 (by kernel_rfl) rfl rfl #[.agg #[.int .i64 fx, .slice A33_0 lx.length c33_0], .agg #[.int .i64 fy, .slice A39_0 ly.length c39_0]] (by rfl) (by (try simp only [List.map_toArray, List.map_cons, List.map_nil]); first | done | rfl) ?_
 refine (impl_SameChain.calls k fx _ _ lx fy _ _ ly true _ G.at_.1.1.1.1.1.1.1.1.1.1.1.1.1.1.1.1.1.1.1.1.2 HCA33_0.out G.at_.1.1.1.1.1.1.1.1.1.1.1.1.1.1.1.1.1.1.2 HCA39_0.out F11.out).mono ?_
 rintro e w1 ⟨rfl, hb⟩
 replace G := G.go hb; clear hb
 refine ⟨_, rfl, G.at_, ?_⟩; intro a' ha; simp only [u6_] at ha; subst ha
 have hk0_ := K0.out
 refine (pu 3 (some 74) 15 ?_ ?_ HT_ ?_ ?_ ?_ (pu 4 (some 75) 31 ?_ ?_ HT_ ?_ ?_ ?_ (pu 5 (some 76) 63 ?_ ?_ HT_ ?_ ?_ ?_ (pu 6 (some 77) 127 ?_ ?_ HT_ ?_ ?_ ?_ (pu 7 (some 78) 255 ?_ ?_ HT_ ?_ ?_ ?_ (pu 8 (some 79) 511 ?_ ?_ HT_ ?_ ?_ ?_ (pu 9 (some 80) 1023 ?_ ?_ HT_ ?_ ?_ ?_ (tk 10 (some 81) 2047 ?_ ?_ HT_ HW_ G.at_ ?_ ?_ ?_ (tk 12 (some 83) 6143 ?_ ?_ HT_ HW_ G.at_ ?_ ?_ ?_ ?_)))))))))
 all_goals first | (rintro w' ⟨⟨⟨⟨⟨⟨⟨⟨⟨⟨⟨⟨⟨⟨⟨⟨⟨⟨⟨⟨⟨⟨⟨⟨⟨⟨-, -⟩, -⟩, -⟩, ⟨s0, s1⟩⟩, ⟨s2, s3, s4, s5⟩⟩, -⟩, ⟨s6, s7⟩⟩, -⟩, ⟨s8, s9⟩⟩, -⟩, ⟨s10, s11⟩⟩, -⟩, -⟩, ⟨s12, s13⟩⟩, ⟨s14, s15⟩⟩, -⟩, ⟨s16, s17⟩⟩, -⟩, -⟩, ⟨s18, s19⟩⟩, -⟩, -⟩, ⟨s20, s21⟩⟩, -⟩, -⟩, ⟨s22, s23⟩⟩; go_simp; with_reducible rfl) | (intro w'; go_simp; with_reducible rfl) | (simp only [u6_]; rfl) | rfl | skip
 refine rc 11 82 8191 HT_ rfl rfl (by kernel_rfl) Try.func15 (by kernel_rfl) rfl rfl #[.agg #[.int .i64 fo, .slice A43_0 lo.length c43_0]] (by rfl) (by (try simp only [List.map_toArray, List.map_cons, List.map_nil]); first | done | rfl) ?_
 refine (impl_ChainOk.calls k fo _ _ lo oo _ G.at_.1.1.1.1.1.1.1.1.1.1.1.1.1.1.1.1.2 HCA43_0.out F12.out).mono ?_
 rintro e w1 ⟨rfl, hb⟩
 replace G := G.go hb; clear hb
 refine ⟨_, rfl, G.at_, ?_⟩; intro a' ha; simp only [u6_] at ha; subst ha
 refine rc 13 84 16383 HT_ rfl rfl (by kernel_rfl) Try.func16 (by kernel_rfl) rfl rfl #[.agg #[.int .i64 fo, .slice A43_0 lo.length c43_0]] (by rfl) (by (try simp only [List.map_toArray, List.map_cons, List.map_nil]); first | done | rfl) ?_
 refine (spec_ChainOk.calls k fo _ _ lo oo _ G.at_.1.1.1.1.1.1.1.1.1.1.1.1.1.1.1.1.2 HCA43_0.out F13.out).mono ?_
 rintro e w1 ⟨rfl, hb⟩
 replace G := G.go hb; clear hb
 refine ⟨_, rfl, G.at_, ?_⟩; intro a' ha; simp only [u6_] at ha; subst ha
 have hk1_ := K1.out
 refine (pu 14 (some 85) 32767 ?_ ?_ HT_ ?_ ?_ ?_ (pu 15 (some 86) 65535 ?_ ?_ HT_ ?_ ?_ ?_ (pu 16 (some 87) 131071 ?_ ?_ HT_ ?_ ?_ ?_ (tk 17 (some 88) 262143 ?_ ?_ HT_ HW_ G.at_ ?_ ?_ ?_ (tk 18 (some 89) 524287 ?_ ?_ HT_ HW_ G.at_ ?_ ?_ ?_ (tk 20 (some 91) 1572863 ?_ ?_ HT_ HW_ G.at_ ?_ ?_ ?_ (tk 21 (some 92) 3670015 ?_ ?_ HT_ HW_ G.at_ ?_ ?_ ?_ ?_)))))))
 all_goals first | (rintro w' ⟨⟨⟨⟨⟨⟨⟨⟨⟨⟨⟨⟨⟨⟨⟨⟨⟨⟨⟨⟨⟨⟨⟨⟨⟨⟨-, -⟩, -⟩, -⟩, ⟨s0, s1⟩⟩, ⟨s2, s3, s4, s5⟩⟩, -⟩, ⟨s6, s7⟩⟩, -⟩, ⟨s8, s9⟩⟩, -⟩, ⟨s10, s11⟩⟩, -⟩, -⟩, ⟨s12, s13⟩⟩, ⟨s14, s15⟩⟩, -⟩, ⟨s16, s17⟩⟩, -⟩, -⟩, ⟨s18, s19⟩⟩, -⟩, -⟩, ⟨s20, s21⟩⟩, -⟩, -⟩, ⟨s22, s23⟩⟩; go_simp; with_reducible rfl) | (intro w'; go_simp; with_reducible rfl) | (simp only [u6_]; rfl) | rfl | skip
 refine rc 19 90 4194303 HT_ rfl rfl (by kernel_rfl) Try.func14 (by kernel_rfl) rfl rfl #[.agg #[.int .i64 fu, .slice A46_0 lu.length c46_0], .agg #[.int .i64 fv, .slice A46_1 lv.length c46_1]] (by rfl) (by (try simp only [List.map_toArray, List.map_cons, List.map_nil]); first | done | rfl) ?_
 refine (impl_SameChain.calls k fu _ _ lu fv _ _ lv ss _ G.at_.1.1.1.1.1.1.1.1.1.1.1.1.1.1.2 HCA46_0.out G.at_.1.1.1.1.1.1.1.1.1.1.1.1.1.2 HCA46_1.out F14.out).mono ?_
 rintro e w1 ⟨rfl, hb⟩
 replace G := G.go hb; clear hb
 refine ⟨_, rfl, G.at_, ?_⟩; intro a' ha; simp only [u6_] at ha; subst ha
 refine rc 22 93 8388607 HT_ rfl rfl (by kernel_rfl) Try.func17 (by kernel_rfl) rfl rfl #[.agg #[.int .i64 fu, .slice A46_0 lu.length c46_0], .agg #[.int .i64 fv, .slice A46_1 lv.length c46_1]] (by rfl) (by (try simp only [List.map_toArray, List.map_cons, List.map_nil]); first | done | rfl) ?_
 refine (spec_SameChain.calls k fu _ _ lu fv _ _ lv ss _ G.at_.1.1.1.1.1.1.1.1.1.1.1.1.1.1.2 HCA46_0.out G.at_.1.1.1.1.1.1.1.1.1.1.1.1.1.2 HCA46_1.out F15.out).mono ?_
 rintro e w1 ⟨rfl, hb⟩
 replace G := G.go hb; clear hb
 refine ⟨_, rfl, G.at_, ?_⟩; intro a' ha; simp only [u6_] at ha; subst ha
 have hk2_ := K2.out
 refine (pu 23 (some 94) 16777215 ?_ ?_ HT_ ?_ ?_ ?_ (pu 24 (some 95) 33554431 ?_ ?_ HT_ ?_ ?_ ?_ (pu 25 (some 96) 67108863 ?_ ?_ HT_ ?_ ?_ ?_ (tk 26 (some 97) 134217727 ?_ ?_ HT_ HW_ G.at_ ?_ ?_ ?_ (tk 27 (some 98) 268435455 ?_ ?_ HT_ HW_ G.at_ ?_ ?_ ?_ ?_)))))
 all_goals first | (rintro w' ⟨⟨⟨⟨⟨⟨⟨⟨⟨⟨⟨⟨⟨⟨⟨⟨⟨⟨⟨⟨⟨⟨⟨⟨⟨⟨-, -⟩, -⟩, -⟩, ⟨s0, s1⟩⟩, ⟨s2, s3, s4, s5⟩⟩, -⟩, ⟨s6, s7⟩⟩, -⟩, ⟨s8, s9⟩⟩, -⟩, ⟨s10, s11⟩⟩, -⟩, -⟩, ⟨s12, s13⟩⟩, ⟨s14, s15⟩⟩, -⟩, ⟨s16, s17⟩⟩, -⟩, -⟩, ⟨s18, s19⟩⟩, -⟩, -⟩, ⟨s20, s21⟩⟩, -⟩, -⟩, ⟨s22, s23⟩⟩; go_simp; with_reducible rfl) | (intro w'; go_simp; with_reducible rfl) | (simp only [u6_]; rfl) | rfl | skip
 refine rc 28 99 536870911 HT_ rfl rfl (by kernel_rfl) Try.func14 (by kernel_rfl) rfl rfl #[.agg #[.int .i64 fe, .slice A57_0 le.length c57_0], .agg #[.int .i64 ff, .slice A63_0 lf.length c63_0]] (by rfl) (by (try simp only [List.map_toArray, List.map_cons, List.map_nil]); first | done | rfl) ?_
 refine (impl_SameChain.calls k fe _ _ le ff _ _ lf true _ G.at_.1.1.1.1.1.1.1.1.2 HCA57_0.out G.at_.1.1.1.1.1.2 HCA63_0.out F16.out).mono ?_
 rintro e w1 ⟨rfl, hb⟩
 replace G := G.go hb; clear hb
 refine ⟨_, rfl, G.at_, ?_⟩; intro a' ha; simp only [u6_] at ha; subst ha
 refine (pu 29 (some 100) 1073741823 ?_ ?_ HT_ ?_ ?_ ?_ (pu 30 (some 101) 2147483647 ?_ ?_ HT_ ?_ ?_ ?_ (pu 31 (some 102) 4294967295 ?_ ?_ HT_ ?_ ?_ ?_ (pu 32 (some 103) 8589934591 ?_ ?_ HT_ ?_ ?_ ?_ (pu 33 (some 104) 17179869183 ?_ ?_ HT_ ?_ ?_ ?_ ?_)))))
 all_goals first | (rintro w' ⟨⟨⟨⟨⟨⟨⟨⟨⟨⟨⟨⟨⟨⟨⟨⟨⟨⟨⟨⟨⟨⟨⟨⟨⟨⟨-, -⟩, -⟩, -⟩, ⟨s0, s1⟩⟩, ⟨s2, s3, s4, s5⟩⟩, -⟩, ⟨s6, s7⟩⟩, -⟩, ⟨s8, s9⟩⟩, -⟩, ⟨s10, s11⟩⟩, -⟩, -⟩, ⟨s12, s13⟩⟩, ⟨s14, s15⟩⟩, -⟩, ⟨s16, s17⟩⟩, -⟩, -⟩, ⟨s18, s19⟩⟩, -⟩, -⟩, ⟨s20, s21⟩⟩, -⟩, -⟩, ⟨s22, s23⟩⟩; go_simp; with_reducible rfl) | (intro w'; go_simp; with_reducible rfl) | (simp only [u6_]; rfl) | rfl | skip
 refine rc 34 105 34359738367 HT_ rfl rfl (by kernel_rfl) Try.func18 (by kernel_rfl) rfl rfl #[.slice A57_1 lg.length c57_1, .slice A63_1 lw.length c63_1] (by rfl) (by (try simp only [List.map_toArray, List.map_cons, List.map_nil]); first | done | rfl) ?_
 refine (laws_sameList.calls k _ _ lg _ _ lw true _ G.at_.1.1.1.1.1.1.1.2 HCA57_1.out G.at_.1.1.1.1.2 HCA63_1.out F17.out).mono ?_
 rintro e w1 ⟨rfl, hb⟩
 replace G := G.go hb; clear hb
 refine ⟨_, rfl, G.at_, ?_⟩; intro a' ha; simp only [u6_] at ha; subst ha
 refine (pu 35 (some 106) 68719476735 ?_ ?_ HT_ ?_ ?_ ?_ (pu 36 (some 107) 137438953471 ?_ ?_ HT_ ?_ ?_ ?_ (pu 37 (some 108) 274877906943 ?_ ?_ HT_ ?_ ?_ ?_ (tk 38 (some 109) 549755813887 ?_ ?_ HT_ HW_ G.at_ ?_ ?_ ?_ (pu 39 (some 110) 1099511627775 ?_ ?_ HT_ ?_ ?_ ?_ (tk 41 (some 112) 3298534883327 ?_ ?_ HT_ HW_ G.at_ ?_ ?_ ?_ (pu 42 (some 113) 7696581394431 ?_ ?_ HT_ ?_ ?_ ?_ ?_)))))))
 all_goals first | (rintro w' ⟨⟨⟨⟨⟨⟨⟨⟨⟨⟨⟨⟨⟨⟨⟨⟨⟨⟨⟨⟨⟨⟨⟨⟨⟨⟨-, -⟩, -⟩, -⟩, ⟨s0, s1⟩⟩, ⟨s2, s3, s4, s5⟩⟩, -⟩, ⟨s6, s7⟩⟩, -⟩, ⟨s8, s9⟩⟩, -⟩, ⟨s10, s11⟩⟩, -⟩, -⟩, ⟨s12, s13⟩⟩, ⟨s14, s15⟩⟩, -⟩, ⟨s16, s17⟩⟩, -⟩, -⟩, ⟨s18, s19⟩⟩, -⟩, -⟩, ⟨s20, s21⟩⟩, -⟩, -⟩, ⟨s22, s23⟩⟩; go_simp; with_reducible rfl) | (intro w'; go_simp; with_reducible rfl) | (simp only [u6_]; rfl) | rfl | skip
 refine rc 40 111 8796093022207 HT_ rfl rfl (by kernel_rfl) Try.func19 (by kernel_rfl) rfl rfl #[.agg #[.int .i64 fg, .slice A68_0 lh.length c68_0], .slice A68_1 ll.length c68_1] (by rfl) (by (try simp only [List.map_toArray, List.map_cons, List.map_nil]); first | done | rfl) ?_
 refine (impl_InChain.calls k fg _ _ lh _ _ ll gi _ G.at_.1.1.2 HCA68_0.out G.at_.1.2 HCA68_1.out F18.out).mono ?_
 rintro e w1 ⟨rfl, hb⟩
 replace G := G.go hb; clear hb
 refine ⟨_, rfl, G.at_, ?_⟩; intro a' ha; simp only [u6_] at ha; subst ha
 refine rc 43 114 17592186044415 HT_ rfl rfl (by kernel_rfl) Try.func20 (by kernel_rfl) rfl rfl #[.agg #[.int .i64 fg, .slice A68_0 lh.length c68_0], .slice A68_1 ll.length c68_1] (by rfl) (by (try simp only [List.map_toArray, List.map_cons, List.map_nil]); first | done | rfl) ?_
 refine (spec_InChain.calls k fg _ _ lh _ _ ll gi _ G.at_.1.1.2 HCA68_0.out G.at_.1.2 HCA68_1.out F19.out).mono ?_
 rintro e w1 ⟨rfl, hb⟩
 replace G := G.go hb; clear hb
 refine ⟨_, rfl, G.at_, ?_⟩; intro a' ha; simp only [u6_] at ha; subst ha
 have hk3_ := K3.out
 refine (pu 44 (some 115) 35184372088831 ?_ ?_ HT_ ?_ ?_ ?_ (pu 45 (some 116) 70368744177663 ?_ ?_ HT_ ?_ ?_ ?_ ?_))
 all_goals first | (rintro w' ⟨⟨⟨⟨⟨⟨⟨⟨⟨⟨⟨⟨⟨⟨⟨⟨⟨⟨⟨⟨⟨⟨⟨⟨⟨⟨-, -⟩, -⟩, -⟩, ⟨s0, s1⟩⟩, ⟨s2, s3, s4, s5⟩⟩, -⟩, ⟨s6, s7⟩⟩, -⟩, ⟨s8, s9⟩⟩, -⟩, ⟨s10, s11⟩⟩, -⟩, -⟩, ⟨s12, s13⟩⟩, ⟨s14, s15⟩⟩, -⟩, ⟨s16, s17⟩⟩, -⟩, -⟩, ⟨s18, s19⟩⟩, -⟩, -⟩, ⟨s20, s21⟩⟩, -⟩, -⟩, ⟨s22, s23⟩⟩; go_simp; with_reducible rfl) | (intro w'; go_simp; with_reducible rfl) | (simp only [u6_]; rfl) | rfl | skip
 refine done_ (done_of HT_.out (by kernel_rfl)) ?_
 go_upto_region 14 with (fail)
 obtain ⟨zg3_0, zg3_1⟩ := G.at_.1.1.1.1.1.1.1.1.1.1.1.1.1.1.1.1.1.1.1.1.1.1.2
 obtain ⟨zg4_0, zg4_1, zg4_2, zg4_3⟩ := G.at_.1.1.1.1.1.1.1.1.1.1.1.1.1.1.1.1.1.1.1.1.1.2
 go_upto_region 15 with (first | (refine gl_ (some 120) Try.func19 #[.agg #[.int .i64 fc, .slice A27_0 lc.length c27_0], .slice A27_1 la.length c27_1] ?_; refine (impl_InChain.calls k fc _ _ lc _ _ la kc _ G.at_.1.1.1.1.1.1.1.1.1.1.1.1.1.1.1.1.1.1.1.1.1.1.1.1.2 HCA27_0.out G.at_.1.1.1.1.1.1.1.1.1.1.1.1.1.1.1.1.1.1.1.1.1.1.1.2 HCA27_1.out F20.out).mono ?_; rintro e w1 ⟨rfl, hb⟩; refine ⟨_, rfl, ?_⟩; have G1 := (G.go hb); clear G hb; have G := G1; clear G1))
 clear zg3_0 zg3_1 zg4_0 zg4_1 zg4_2 zg4_3
 obtain ⟨zg5_0, zg5_1⟩ := G.at_.1.1.1.1.1.1.1.1.1.1.1.1.1.1.1.1.1.1.1.2
 obtain ⟨zg4_0, zg4_1, zg4_2, zg4_3⟩ := G.at_.1.1.1.1.1.1.1.1.1.1.1.1.1.1.1.1.1.1.1.1.1.2
 go_upto_region 16 with (first | (refine gl_ (some 124) Try.func19 #[.agg #[.int .i64 fx, .slice A33_0 lx.length c33_0], .slice A27_1 la.length c27_1] ?_; refine (impl_InChain.calls k fx _ _ lx _ _ la ix _ G.at_.1.1.1.1.1.1.1.1.1.1.1.1.1.1.1.1.1.1.1.1.2 HCA33_0.out G.at_.1.1.1.1.1.1.1.1.1.1.1.1.1.1.1.1.1.1.1.1.1.1.1.2 HCA27_1.out F21.out).mono ?_; rintro e w1 ⟨rfl, hb⟩; refine ⟨_, rfl, ?_⟩; have G1 := (G.go hb); clear G hb; have G := G1; clear G1))
 clear zg5_0 zg5_1 zg4_0 zg4_1 zg4_2 zg4_3
 have hk4_ := K4.out
 have hk5_ := K5.out
 have he5_ : (fresh = decide (kc < 0)) = True := eq_true (bne_eq_false_iff_eq.mp hk5_)
 have hf5_ : (!(fresh == decide (kc < 0))) = false := hk5_
 have hk6_ := K6.out
 have he6_ : (wrap64 ((lg.length : Int) + (le.length : Int)) = (ld.length : Int)) = True := eq_true (bne_eq_false_iff_eq.mp hk6_)
 obtain ⟨zg14_0, zg14_1⟩ := G.at_.1.1.1.1.1.1.2
 obtain ⟨zg12_0, zg12_1⟩ := G.at_.1.1.1.1.1.1.1.1.1.2
 go_upto_region 18 with (fail)
 clear zg14_0 zg14_1 zg12_0 zg12_1
 refine Gs.hide G (fun Ψ GP hP hQ => ?_)
 clear G
 have HG := Aside0.mk GP
 have hW := Aside0.mk @GP.st
 clear GP
 have hmc : lc.length ≤ 9223372036854775807 := (hP _ HG.out.at_).1.1.1.1.1.1.1.1.1.1.1.1.1.1.1.1.1.1.1.1.1.1.1.1.2.2.1
 go_wp2
 go_loopg [22] lc.length (fun kx v22 w' => ∃ m : Nat, v22 = .int .i64 (m : Int) ∧ m ≤ lc.length ∧ lc.length - m ≤ kx ∧ Aside0 (Gs Ψ w'))
 case atStart => exact ⟨0, rfl, Nat.zero_le _, Nat.le_refl _, HG⟩
 case round =>
  clear HG
  obtain ⟨m, rfl, hmn, hkx, HG⟩ := hrel
  obtain ⟨zc0, zc1⟩ := (hP _ HG.out.at_).1.1.1.1.1.1.1.1.1.1.1.1.1.1.1.1.1.1.1.1.1.1.2
  by_cases hlt : m < lc.length
  · skip
    have hltb : decide ((m : Int) < (lc.length : Int)) = true := decide_eq_true (by omega)
    go_upto_region 21 with (fail)
    clear zc0 zc1
    by_cases hk : (m : Int) = kc
    · skip
      have hkb : ((m : Int) != kc) = false := by rw [hk]; exact bne_self_eq_false _
      clear hk
      have G := HG.out
      clear HG
      refine reg G (by kernel_rfl) rfl laws_FnChains.tab21 laws_FnChains.bits21 (fun wr hbr G' HT_ HW_ => ?_)
      clear G; have G := G'; clear G'
      clear hbr
      refine (pu 0 (some 152) 1 ?_ ?_ HT_ ?_ ?_ ?_ (pu 1 (some 153) 3 ?_ ?_ HT_ ?_ ?_ ?_ (pu 2 (some 154) 7 ?_ ?_ HT_ ?_ ?_ ?_ (pu 3 (some 155) 15 ?_ ?_ HT_ ?_ ?_ ?_ (po 4 (some 156) 31 ?_ HT_ ?_ ?_ (po 5 (some 157) 63 ?_ HT_ ?_ ?_ (po 6 (some 158) 127 ?_ HT_ ?_ ?_ (po 7 (some 159) 255 ?_ HT_ ?_ ?_ (po 8 (some 160) 511 ?_ HT_ ?_ ?_ (po 9 (some 161) 1023 ?_ HT_ ?_ ?_ (po 10 (some 162) 2047 ?_ HT_ ?_ ?_ (po 11 (some 163) 4095 ?_ HT_ ?_ ?_ (po 12 (some 164) 8191 ?_ HT_ ?_ ?_ (po 13 (some 165) 16383 ?_ HT_ ?_ ?_ (po 14 (some 166) 32767 ?_ HT_ ?_ ?_ (po 15 (some 167) 65535 ?_ HT_ ?_ ?_ (pu 16 (some 168) 131071 ?_ ?_ HT_ ?_ ?_ ?_ ?_)))))))))))))))))
      all_goals first | (rintro w' -; go_simp; with_reducible rfl) | (intro w'; go_simp; with_reducible rfl) | (simp only [u6_]; rfl) | rfl | skip
      refine done_ (done_of HT_.out (by kernel_rfl)) ?_
      have HG := Aside0.mk G
      clear G
      go_wp2
      go_roundg (lc.length - (m + 1))
      case measure => omega
      case rel => exact ⟨m + 1, by go_num, by omega, Nat.le_refl _, HG⟩
    · skip
      have hkb : ((m : Int) != kc) = true := bne_iff_ne.mpr hk
      clear hk
      have hFm := K8.out m hlt hkb
      have hle := K7.out
      have bX := (hP _ HG.out.at_).1.1.1.1.1.1.1.1.1.1.1.1.1.1.1.1.1.1.1.2
      have bC := (hP _ HG.out.at_).1.1.1.1.1.1.1.1.1.1.1.1.1.1.1.1.1.1.1.1.1.1.2
      obtain ⟨ad, Am, cm, e_, hx0, hx1, hx2, hx3, hxl, hxC⟩ := at_T29 (hP _ HG.out.at_).1.1.1.1.1.1.1.1.1.1.1.1.1.1.1.1.1.1.1.1.2 (m : Int) (by omega) (by omega)
      cases e_
      obtain ⟨ad2, Ai, ci, e_, hy0, hy1, hy2, hy3, hyl, hyC⟩ := at_T29 (hP _ HG.out.at_).1.1.1.1.1.1.1.1.1.1.1.1.1.1.1.1.1.1.1.1.1.1.1.1.2 (m : Int) (by omega) (by omega)
      cases e_
      have pm : (0 ≤ (m : Int)) = True := eq_true (by omega)
      have qm : ((m : Int) < (lx.length : Int)) = True := eq_true (by omega)
      have qi : ((m : Int) < (lc.length : Int)) = True := eq_true (by omega)
      have qm2 : (m < lx.length) = True := eq_true (by omega)
      have qi2 : (m < lc.length) = True := eq_true (by omega)
      simp only [Int.toNat_natCast] at hx0 hx1 hx2 hx3 hy0 hy1 hy2 hy3
      have HLm := aM hxl
      have HLi := aM hyl
      have G := ((((((((((((HG.out.add (Gs.ofB2 bX)).add (Gs.ofB2 bC)).add (Gs.cell hx0)).add (Gs.cell hx1)).add (Gs.cell hx2)).add (Gs.cell hx3)).add (Gs.cell hy0)).add (Gs.cell hy1)).add (Gs.cell hy2)).add (Gs.cell hy3)).add (Gs.row hxC)).add (Gs.row hyC))
      clear bX bC hx0 hx1 hx2 hx3 hy0 hy1 hy2 hy3 hxl hyl hxC hyC HG hle
      refine reg G (by kernel_rfl) rfl laws_FnChains.tab21 laws_FnChains.bits21 (fun wr hbr G' HT_ HW_ => ?_)
      clear G; have G := G'; clear G'
      clear hbr
      refine (pu 0 (some 152) 1 ?_ ?_ HT_ ?_ ?_ ?_ (pu 1 (some 153) 3 ?_ ?_ HT_ ?_ ?_ ?_ (pu 2 (some 154) 7 ?_ ?_ HT_ ?_ ?_ ?_ (pu 3 (some 155) 15 ?_ ?_ HT_ ?_ ?_ ?_ (pu 4 (some 156) 31 ?_ ?_ HT_ ?_ ?_ ?_ (tk 5 (some 157) 63 ?_ ?_ HT_ HW_ G.at_ ?_ ?_ ?_ (pu 6 (some 158) 127 ?_ ?_ HT_ ?_ ?_ ?_ (pu 7 (some 159) 255 ?_ ?_ HT_ ?_ ?_ ?_ (tk 8 (some 160) 511 ?_ ?_ HT_ HW_ G.at_ ?_ ?_ ?_ (pu 9 (some 161) 1023 ?_ ?_ HT_ ?_ ?_ ?_ (tk 10 (some 162) 2047 ?_ ?_ HT_ HW_ G.at_ ?_ ?_ ?_ (pu 11 (some 163) 4095 ?_ ?_ HT_ ?_ ?_ ?_ (pu 12 (some 164) 8191 ?_ ?_ HT_ ?_ ?_ ?_ (tk 13 (some 165) 16383 ?_ ?_ HT_ HW_ G.at_ ?_ ?_ ?_ ?_))))))))))))))
      all_goals first | (rintro w' ⟨⟨⟨⟨⟨⟨⟨⟨⟨⟨⟨⟨-, ⟨s0, s1⟩⟩, ⟨s2, s3⟩⟩, s4⟩, s5⟩, s6⟩, s7⟩, s8⟩, s9⟩, s10⟩, s11⟩, -⟩, -⟩; go_simp; with_reducible rfl) | (intro w'; go_simp; with_reducible rfl) | (simp only [u6_]; rfl) | rfl | skip
      refine rc 14 166 32767 HT_ rfl rfl (by kernel_rfl) Try.func21 (by kernel_rfl) rfl rfl #[.agg #[.slice Am (rd_T29 lx (m : Int)).f0.length cm, .int .i64 ((rd_T29 lx (m : Int)).f1), .int .i64 ((rd_T29 lx (m : Int)).f2), .string ((rd_T29 lx (m : Int)).f3)], .agg #[.slice Ai (rd_T29 lc (m : Int)).f0.length ci, .int .i64 ((rd_T29 lc (m : Int)).f1), .int .i64 ((rd_T29 lc (m : Int)).f2), .string ((rd_T29 lc (m : Int)).f3)]] (by rfl) (by (try simp only [List.map_toArray, List.map_cons, List.map_nil]); first | done | rfl) ?_
      refine (impl_SameAlarm.calls k _ _ ((rd_T29 lx (m : Int)).f0) ((rd_T29 lx (m : Int)).f1) ((rd_T29 lx (m : Int)).f2) ((rd_T29 lx (m : Int)).f3) _ _ ((rd_T29 lc (m : Int)).f0) ((rd_T29 lc (m : Int)).f1) ((rd_T29 lc (m : Int)).f2) ((rd_T29 lc (m : Int)).f3) true _ G.at_.1.2 HLm.out G.at_.2 HLi.out hFm).mono ?_
      rintro e w1 ⟨rfl, hb⟩
      replace G := G.go hb; clear hb
      refine ⟨_, rfl, G.at_, ?_⟩; intro a' ha; simp only [u6_] at ha; subst ha
      refine (pu 15 (some 167) 65535 ?_ ?_ HT_ ?_ ?_ ?_ (pu 16 (some 168) 131071 ?_ ?_ HT_ ?_ ?_ ?_ ?_))
      all_goals first | (rintro w' ⟨⟨⟨⟨⟨⟨⟨⟨⟨⟨⟨⟨-, ⟨s0, s1⟩⟩, ⟨s2, s3⟩⟩, s4⟩, s5⟩, s6⟩, s7⟩, s8⟩, s9⟩, s10⟩, s11⟩, -⟩, -⟩; go_simp; with_reducible rfl) | (intro w'; go_simp; with_reducible rfl) | (simp only [u6_]; rfl) | rfl | skip
      refine done_ (done_of HT_.out (by kernel_rfl)) ?_
      have HG := Aside0.mk (G.left hW.out (fun _ h_ => h_.1.1.1.1.1.1.1.1.1.1.1.1))
      clear G
      go_wp2
      go_roundg (lc.length - (m + 1))
      case measure => omega
      case rel => exact ⟨m + 1, by go_num, by omega, Nat.le_refl _, HG⟩
  · skip
    have hltb : decide ((m : Int) < (lc.length : Int)) = false := decide_eq_false (by omega)
    have G := hQ _ HG.out
    go_upto_region 23 with (fail)
    clear HG hltb hP hQ hW zc0 zc1 hmn hkx hlt
    have hi0 : 0 ≤ ix := by have h_ := K4.out; simpa using h_
    have hi1 := K9.out
    have pi_ : (0 ≤ ix) = True := eq_true hi0
    have qi_ : (ix < (lx.length : Int)) = True := eq_true hi1
    have qi2 : (ix.toNat < lx.length) = True := eq_true (by omega)
    have hni : decide (ix < 0) = false := decide_eq_false (by omega)
    by_cases hk : kc < 0
    · skip
      obtain ⟨ad, Am, cm, e_, hx0, hx1, hx2, hx3, hxl, hxC⟩ := at_T29 G.at_.1.1.1.1.1.1.1.1.1.1.1.1.1.1.1.1.1.1.1.1.2 ix hi0 hi1
      cases e_
      have HLm := aM hxl
      have hkb : decide (kc < 0) = true := decide_eq_true hk
      have hlen : ((lx.length : Int) == wrap64 ((lc.length : Int) + 1)) = true := K10.out hk
      have G1 := (((((G.add (Gs.cell hx0)).add (Gs.cell hx1)).add (Gs.cell hx2)).add (Gs.cell hx3)).add (Gs.row hxC))
      clear G hx0 hx1 hx2 hx3 hxC hxl
      have G := G1
      clear G1
      refine reg G (by kernel_rfl) rfl laws_FnChains.tab23 laws_FnChains.bits23 (fun wr hbr G' HT_ HW_ => ?_)
      clear G; have G := G'; clear G'
      clear hbr
      refine (pu 0 (some 169) 1 ?_ ?_ HT_ ?_ ?_ ?_ (pu 1 (some 170) 3 ?_ ?_ HT_ ?_ ?_ ?_ (pu 2 (some 171) 7 ?_ ?_ HT_ ?_ ?_ ?_ (pu 3 (some 172) 15 ?_ ?_ HT_ ?_ ?_ ?_ (tk 4 (some 173) 31 ?_ ?_ HT_ HW_ G.at_ ?_ ?_ ?_ (pu 5 (some 174) 63 ?_ ?_ HT_ ?_ ?_ ?_ (pu 6 (some 175) 127 ?_ ?_ HT_ ?_ ?_ ?_ (tk 7 (some 176) 255 ?_ ?_ HT_ HW_ G.at_ ?_ ?_ ?_ (pu 8 (some 177) 511 ?_ ?_ HT_ ?_ ?_ ?_ (pu 9 (some 178) 1023 ?_ ?_ HT_ ?_ ?_ ?_ (pu 10 (some 179) 2047 ?_ ?_ HT_ ?_ ?_ ?_ (pu 11 (some 180) 4095 ?_ ?_ HT_ ?_ ?_ ?_ (pu 12 (some 181) 8191 ?_ ?_ HT_ ?_ ?_ ?_ (pu 13 (some 182) 16383 ?_ ?_ HT_ ?_ ?_ ?_ (tk 14 (some 183) 32767 ?_ ?_ HT_ HW_ G.at_ ?_ ?_ ?_ (pu 15 (some 184) 65535 ?_ ?_ HT_ ?_ ?_ ?_ (pu 16 (some 185) 131071 ?_ ?_ HT_ ?_ ?_ ?_ (tk 17 (some 186) 262143 ?_ ?_ HT_ HW_ G.at_ ?_ ?_ ?_ (tk 18 (some 187) 524287 ?_ ?_ HT_ HW_ G.at_ ?_ ?_ ?_ ?_)))))))))))))))))))
      all_goals first | (rintro w' ⟨⟨⟨⟨⟨⟨⟨⟨⟨⟨⟨⟨⟨⟨⟨⟨⟨⟨⟨⟨⟨⟨⟨⟨⟨⟨⟨⟨⟨⟨⟨-, -⟩, -⟩, -⟩, ⟨s0, s1⟩⟩, ⟨s2, s3, s4, s5⟩⟩, -⟩, ⟨s6, s7⟩⟩, -⟩, ⟨s8, s9⟩⟩, -⟩, ⟨s10, s11⟩⟩, -⟩, -⟩, ⟨s12, s13⟩⟩, ⟨s14, s15⟩⟩, -⟩, ⟨s16, s17⟩⟩, -⟩, -⟩, ⟨s18, s19⟩⟩, -⟩, -⟩, ⟨s20, s21⟩⟩, -⟩, -⟩, ⟨s22, s23⟩⟩, s24⟩, s25⟩, s26⟩, s27⟩, -⟩; go_simp; with_reducible rfl) | (intro w'; go_simp; with_reducible rfl) | (simp only [u6_]; rfl) | rfl | skip
      refine rc 19 188 1048575 HT_ rfl rfl (by kernel_rfl) Try.func21 (by kernel_rfl) rfl rfl #[.agg #[.slice Am (rd_T29 lx ix).f0.length cm, .int .i64 ((rd_T29 lx ix).f1), .int .i64 ((rd_T29 lx ix).f2), .string ((rd_T29 lx ix).f3)], .agg #[.slice A27_1 la.length c27_1, .int .i64 sa, .int .i64 ea, .string na]] (by rfl) (by (try simp only [List.map_toArray, List.map_cons, List.map_nil]); first | done | rfl) ?_
      refine (impl_SameAlarm.calls k _ _ ((rd_T29 lx ix).f0) ((rd_T29 lx ix).f1) ((rd_T29 lx ix).f2) ((rd_T29 lx ix).f3) _ _ la sa ea na true _ G.at_.2 HLm.out G.at_.1.1.1.1.1.1.1.1.1.1.1.1.1.1.1.1.1.1.1.1.1.1.1.1.1.1.1.1.2 HCA27_1.out (F22.out hk)).mono ?_
      rintro e w1 ⟨rfl, hb⟩
      replace G := G.go hb; clear hb
      refine ⟨_, rfl, G.at_, ?_⟩; intro a' ha; simp only [u6_] at ha; subst ha
      refine (pu 20 (some 189) 2097151 ?_ ?_ HT_ ?_ ?_ ?_ (pu 21 (some 190) 4194303 ?_ ?_ HT_ ?_ ?_ ?_ (po 22 (some 191) 8388607 ?_ HT_ ?_ ?_ (po 23 (some 192) 16777215 ?_ HT_ ?_ ?_ (po 24 (some 193) 33554431 ?_ HT_ ?_ ?_ (po 25 (some 194) 67108863 ?_ HT_ ?_ ?_ (po 26 (some 195) 134217727 ?_ HT_ ?_ ?_ (po 27 (some 196) 268435455 ?_ HT_ ?_ ?_ (po 28 (some 197) 536870911 ?_ HT_ ?_ ?_ (po 29 (some 198) 1073741823 ?_ HT_ ?_ ?_ (po 30 (some 199) 2147483647 ?_ HT_ ?_ ?_ (po 31 (some 200) 4294967295 ?_ HT_ ?_ ?_ (po 32 (some 201) 8589934591 ?_ HT_ ?_ ?_ (po 33 (some 202) 17179869183 ?_ HT_ ?_ ?_ (po 34 (some 203) 34359738367 ?_ HT_ ?_ ?_ (po 35 (some 204) 68719476735 ?_ HT_ ?_ ?_ (po 36 (some 205) 137438953471 ?_ HT_ ?_ ?_ (po 37 (some 206) 274877906943 ?_ HT_ ?_ ?_ (po 38 (some 207) 549755813887 ?_ HT_ ?_ ?_ (po 39 (some 208) 1099511627775 ?_ HT_ ?_ ?_ (po 40 (some 209) 2199023255551 ?_ HT_ ?_ ?_ (po 41 (some 210) 4398046511103 ?_ HT_ ?_ ?_ (po 42 (some 211) 8796093022207 ?_ HT_ ?_ ?_ (po 43 (some 212) 17592186044415 ?_ HT_ ?_ ?_ (po 44 (some 213) 35184372088831 ?_ HT_ ?_ ?_ (po 45 (some 214) 70368744177663 ?_ HT_ ?_ ?_ (po 46 (some 215) 140737488355327 ?_ HT_ ?_ ?_ (po 47 (some 216) 281474976710655 ?_ HT_ ?_ ?_ (pu 48 (some 217) 562949953421311 ?_ ?_ HT_ ?_ ?_ ?_ (pu 49 (some 2) 1125899906842623 ?_ ?_ HT_ ?_ ?_ ?_ ?_))))))))))))))))))))))))))))))
      all_goals first | (rintro w' ⟨⟨⟨⟨⟨⟨⟨⟨⟨⟨⟨⟨⟨⟨⟨⟨⟨⟨⟨⟨⟨⟨⟨⟨⟨⟨⟨⟨⟨⟨⟨-, -⟩, -⟩, -⟩, ⟨s0, s1⟩⟩, ⟨s2, s3, s4, s5⟩⟩, -⟩, ⟨s6, s7⟩⟩, -⟩, ⟨s8, s9⟩⟩, -⟩, ⟨s10, s11⟩⟩, -⟩, -⟩, ⟨s12, s13⟩⟩, ⟨s14, s15⟩⟩, -⟩, ⟨s16, s17⟩⟩, -⟩, -⟩, ⟨s18, s19⟩⟩, -⟩, -⟩, ⟨s20, s21⟩⟩, -⟩, -⟩, ⟨s22, s23⟩⟩, s24⟩, s25⟩, s26⟩, s27⟩, -⟩; go_simp; with_reducible rfl) | (intro w'; go_simp; with_reducible rfl) | (simp only [u6_]; rfl) | rfl | skip
      refine done_ (done_of HT_.out (by kernel_rfl)) ?_
      try go_wp2
      go_ret
      exact ⟨rfl, G.at_.1.1.1.1.1.1.1.1.1.1.1.1.1.1.1.1.1.1.1.1.1.1.1.1.1.1.1.1.1.1.1⟩
    · skip
      obtain ⟨ad, Am, cm, e_, hx0, hx1, hx2, hx3, hxl, hxC⟩ := at_T29 G.at_.1.1.1.1.1.1.1.1.1.1.1.1.1.1.1.1.1.1.1.1.2 ix hi0 hi1
      cases e_
      have HLm := aM hxl
      have hk0 : 0 ≤ kc := by omega
      clear hk
      have hk1 := K11.out hk0
      have hkb : decide (kc < 0) = false := decide_eq_false (by omega)
      have hkc : decide (0 ≤ kc) = true := decide_eq_true hk0
      have hlen : ((lx.length : Int) == (lc.length : Int)) = true := K12.out hk0
      have pk_ : (0 ≤ kc) = True := eq_true hk0
      have qk_ : (kc < (lc.length : Int)) = True := eq_true hk1
      have qk2 : (kc.toNat < lc.length) = True := eq_true (by omega)
      obtain ⟨ad2, Ai, ci, e_, hy0, hy1, hy2, hy3, hyl, hyC⟩ := at_T29 G.at_.1.1.1.1.1.1.1.1.1.1.1.1.1.1.1.1.1.1.1.1.1.1.1.1.2 kc hk0 hk1
      cases e_
      have HLi := aM hyl
      have G1 := ((((((((((G.add (Gs.cell hx0)).add (Gs.cell hx1)).add (Gs.cell hx2)).add (Gs.cell hx3)).add (Gs.row hxC)).add (Gs.cell hy0)).add (Gs.cell hy1)).add (Gs.cell hy2)).add (Gs.cell hy3)).add (Gs.row hyC))
      clear G hx0 hx1 hx2 hx3 hxC hxl hy0 hy1 hy2 hy3 hyC hyl
      have G := G1
      clear G1
      refine reg G (by kernel_rfl) rfl laws_FnChains.tab23 laws_FnChains.bits23 (fun wr hbr G' HT_ HW_ => ?_)
      clear G; have G := G'; clear G'
      clear hbr
      refine (pu 0 (some 169) 1 ?_ ?_ HT_ ?_ ?_ ?_ (pu 1 (some 170) 3 ?_ ?_ HT_ ?_ ?_ ?_ (pu 2 (some 171) 7 ?_ ?_ HT_ ?_ ?_ ?_ (po 3 (some 172) 15 ?_ HT_ ?_ ?_ (po 4 (some 173) 31 ?_ HT_ ?_ ?_ (po 5 (some 174) 63 ?_ HT_ ?_ ?_ (po 6 (some 175) 127 ?_ HT_ ?_ ?_ (po 7 (some 176) 255 ?_ HT_ ?_ ?_ (po 8 (some 177) 511 ?_ HT_ ?_ ?_ (po 9 (some 178) 1023 ?_ HT_ ?_ ?_ (po 10 (some 179) 2047 ?_ HT_ ?_ ?_ (pu 11 (some 180) 4095 ?_ ?_ HT_ ?_ ?_ ?_ (pu 12 (some 181) 8191 ?_ ?_ HT_ ?_ ?_ ?_ (po 13 (some 182) 16383 ?_ HT_ ?_ ?_ (po 14 (some 183) 32767 ?_ HT_ ?_ ?_ (po 15 (some 184) 65535 ?_ HT_ ?_ ?_ (po 16 (some 185) 131071 ?_ HT_ ?_ ?_ (po 17 (some 186) 262143 ?_ HT_ ?_ ?_ (po 18 (some 187) 524287 ?_ HT_ ?_ ?_ (po 19 (some 188) 1048575 ?_ HT_ ?_ ?_ (pu 20 (some 189) 2097151 ?_ ?_ HT_ ?_ ?_ ?_ (pu 21 (some 190) 4194303 ?_ ?_ HT_ ?_ ?_ ?_ (pu 22 (some 191) 8388607 ?_ ?_ HT_ ?_ ?_ ?_ (pu 23 (some 192) 16777215 ?_ ?_ HT_ ?_ ?_ ?_ (pu 24 (some 193) 33554431 ?_ ?_ HT_ ?_ ?_ ?_ (pu 25 (some 194) 67108863 ?_ ?_ HT_ ?_ ?_ ?_ (tk 26 (some 195) 134217727 ?_ ?_ HT_ HW_ G.at_ ?_ ?_ ?_ (pu 27 (some 196) 268435455 ?_ ?_ HT_ ?_ ?_ ?_ (pu 28 (some 197) 536870911 ?_ ?_ HT_ ?_ ?_ ?_ (tk 29 (some 198) 1073741823 ?_ ?_ HT_ HW_ G.at_ ?_ ?_ ?_ (pu 30 (some 199) 2147483647 ?_ ?_ HT_ ?_ ?_ ?_ (pu 31 (some 200) 4294967295 ?_ ?_ HT_ ?_ ?_ ?_ (pu 32 (some 201) 8589934591 ?_ ?_ HT_ ?_ ?_ ?_ (pu 33 (some 202) 17179869183 ?_ ?_ HT_ ?_ ?_ ?_ (pu 34 (some 203) 34359738367 ?_ ?_ HT_ ?_ ?_ ?_ (tk 35 (some 204) 68719476735 ?_ ?_ HT_ HW_ G.at_ ?_ ?_ ?_ (pu 36 (some 205) 137438953471 ?_ ?_ HT_ ?_ ?_ ?_ (pu 37 (some 206) 274877906943 ?_ ?_ HT_ ?_ ?_ ?_ (tk 38 (some 207) 549755813887 ?_ ?_ HT_ HW_ G.at_ ?_ ?_ ?_ (pu 39 (some 208) 1099511627775 ?_ ?_ HT_ ?_ ?_ ?_ (tk 40 (some 209) 2199023255551 ?_ ?_ HT_ HW_ G.at_ ?_ ?_ ?_ (pu 41 (some 210) 4398046511103 ?_ ?_ HT_ ?_ ?_ ?_ (pu 42 (some 211) 8796093022207 ?_ ?_ HT_ ?_ ?_ ?_ (tk 43 (some 212) 17592186044415 ?_ ?_ HT_ HW_ G.at_ ?_ ?_ ?_ (tk 44 (some 213) 35184372088831 ?_ ?_ HT_ HW_ G.at_ ?_ ?_ ?_ ?_)))))))))))))))))))))))))))))))))))))))))))))
      all_goals first | (rintro w' ⟨⟨⟨⟨⟨⟨⟨⟨⟨⟨⟨⟨⟨⟨⟨⟨⟨⟨⟨⟨⟨⟨⟨⟨⟨⟨⟨⟨⟨⟨⟨⟨⟨⟨⟨⟨-, -⟩, -⟩, -⟩, ⟨s0, s1⟩⟩, ⟨s2, s3, s4, s5⟩⟩, -⟩, ⟨s6, s7⟩⟩, -⟩, ⟨s8, s9⟩⟩, -⟩, ⟨s10, s11⟩⟩, -⟩, -⟩, ⟨s12, s13⟩⟩, ⟨s14, s15⟩⟩, -⟩, ⟨s16, s17⟩⟩, -⟩, -⟩, ⟨s18, s19⟩⟩, -⟩, -⟩, ⟨s20, s21⟩⟩, -⟩, -⟩, ⟨s22, s23⟩⟩, s24⟩, s25⟩, s26⟩, s27⟩, -⟩, s28⟩, s29⟩, s30⟩, s31⟩, -⟩; go_simp; with_reducible rfl) | (intro w'; go_simp; with_reducible rfl) | (simp only [u6_]; rfl) | rfl | skip
      refine rc 45 214 70368744177663 HT_ rfl rfl (by kernel_rfl) Try.func22 (by kernel_rfl) rfl rfl #[.agg #[.slice Ai (rd_T29 lc kc).f0.length ci, .int .i64 ((rd_T29 lc kc).f1), .int .i64 ((rd_T29 lc kc).f2), .string ((rd_T29 lc kc).f3)], .agg #[.slice A27_1 la.length c27_1, .int .i64 sa, .int .i64 ea, .string na]] (by rfl) (by (try simp only [List.map_toArray, List.map_cons, List.map_nil]); first | done | rfl) ?_
      refine (impl_Merge.calls _ _ ((rd_T29 lc kc).f0) ((rd_T29 lc kc).f1) ((rd_T29 lc kc).f2) ((rd_T29 lc kc).f3) _ _ la sa ea na lm sm em nm _ G.at_.2 HLi.out G.at_.1.1.1.1.1.1.1.1.1.1.1.1.1.1.1.1.1.1.1.1.1.1.1.1.1.1.1.1.1.1.1.1.1.2 HCA27_1.out (F23.out hk0)).mono ?_
      rintro e w1 ⟨v214_0, rfl, ho214_0, hb⟩
      obtain ⟨A214_0, c214_0, rfl, hcA214_0, hCA214_0⟩ := Kd.R_reads ho214_0
      clear ho214_0; have HCA214_0 := aM hcA214_0; clear hcA214_0
      have XA214_0 := Gs.row hCA214_0; clear hCA214_0
      replace G := G.go hb; clear hb
      refine ⟨_, rfl, G.at_, ?_⟩; intro a' ha; simp only [u6_] at ha; subst ha
      refine rc 46 215 140737488355327 HT_ rfl rfl (by kernel_rfl) Try.func21 (by kernel_rfl) rfl rfl #[.agg #[.slice Am (rd_T29 lx ix).f0.length cm, .int .i64 ((rd_T29 lx ix).f1), .int .i64 ((rd_T29 lx ix).f2), .string ((rd_T29 lx ix).f3)], .agg #[.slice A214_0 lm.length c214_0, .int .i64 sm, .int .i64 em, .string nm]] (by rfl) (by (try simp only [List.map_toArray, List.map_cons, List.map_nil]); first | done | rfl) ?_
      refine (impl_SameAlarm.calls k _ _ ((rd_T29 lx ix).f0) ((rd_T29 lx ix).f1) ((rd_T29 lx ix).f2) ((rd_T29 lx ix).f3) _ _ lm sm em nm true _ G.at_.1.1.1.1.1.2 HLm.out XA214_0.at_ HCA214_0.out (F24.out hk0)).mono ?_
      rintro e w1 ⟨rfl, hb⟩
      replace XA214_0 := XA214_0.go hb
      replace G := G.go hb; clear hb
      refine ⟨_, rfl, G.at_, ?_⟩; intro a' ha; simp only [u6_] at ha; subst ha
      refine (pu 47 (some 216) 281474976710655 ?_ ?_ HT_ ?_ ?_ ?_ (pu 48 (some 217) 562949953421311 ?_ ?_ HT_ ?_ ?_ ?_ (pu 49 (some 2) 1125899906842623 ?_ ?_ HT_ ?_ ?_ ?_ ?_)))
      all_goals first | (rintro w' ⟨⟨⟨⟨⟨⟨⟨⟨⟨⟨⟨⟨⟨⟨⟨⟨⟨⟨⟨⟨⟨⟨⟨⟨⟨⟨⟨⟨⟨⟨⟨⟨⟨⟨⟨⟨-, -⟩, -⟩, -⟩, ⟨s0, s1⟩⟩, ⟨s2, s3, s4, s5⟩⟩, -⟩, ⟨s6, s7⟩⟩, -⟩, ⟨s8, s9⟩⟩, -⟩, ⟨s10, s11⟩⟩, -⟩, -⟩, ⟨s12, s13⟩⟩, ⟨s14, s15⟩⟩, -⟩, ⟨s16, s17⟩⟩, -⟩, -⟩, ⟨s18, s19⟩⟩, -⟩, -⟩, ⟨s20, s21⟩⟩, -⟩, -⟩, ⟨s22, s23⟩⟩, s24⟩, s25⟩, s26⟩, s27⟩, -⟩, s28⟩, s29⟩, s30⟩, s31⟩, -⟩; go_simp; with_reducible rfl) | (intro w'; go_simp; with_reducible rfl) | (simp only [u6_]; rfl) | rfl | skip
      refine done_ (done_of HT_.out (by kernel_rfl)) ?_
      try go_wp2
      go_ret
      exact ⟨rfl, G.at_.1.1.1.1.1.1.1.1.1.1.1.1.1.1.1.1.1.1.1.1.1.1.1.1.1.1.1.1.1.1.1.1.1.1.1.1⟩
theorem laws_FnChains.early (A0 : Option Addr) (c0 : Nat) (l0 : List Int) (w : World) (hr0 : Kd.C (Kd.int .u8) w A0 l0.length l0) (hc0 : l0.length ≤ c0)
  (F1 : Aside0 (laws_big.f l0 = some true)) :
  Calls Try.prog 3 #[.slice A0 l0.length c0] w fun e w' => e = .returned (.bool true) ∧ Below w.heap.size w w' := by
 have HC0 := aM hc0
 have G := (Gs.below w).add (Gs.row hr0)
 clear hc0 hr0
 go_enter Try.func3, Try.ntmps3
 go_wp2_with (first | (refine gl_ (some 24) Try.func4 #[.slice A0 l0.length c0] ?_; refine (laws_big.calls _ _ l0 true _ G.at_.2 HC0.out F1.out).mono ?_; rintro e w1 ⟨rfl, hb⟩; refine ⟨_, rfl, ?_⟩; have G1 := (G.go hb.below); clear G hb; have G := G1; clear G1))
 try go_wp2
 go_ret
 exact ⟨rfl, G.at_.1⟩
/-- What each call of the law gives, at rounds k. -/
def laws_FnChains.Facts (k : Nat) (l0 : List Int) : Prop := laws_big.f l0 = some true ∨ ∃ (fc : Int) (lc : List (S29)) (la : List (S76)) (sa : Int) (ea : Int) (na : ByteArray) (fx : Int) (lx : List (S29)) (fresh : Bool) (fy : Int) (ly : List (S29)) (fo : Int) (lo : List (S29)) (fu : Int) (lu : List (S29)) (fv : Int) (lv : List (S29)) (fd : Int) (ld : List (S29)) (now : Int) (fe : Int) (le : List (S29)) (lg : List (S29)) (ff : Int) (lf : List (S29)) (lw : List (S29)) (fg : Int) (lh : List (S29)) (ll : List (S76)) (oo : Bool) (ss : Bool) (gi : Int) (kc : Int) (ix : Int) (lm : List (S76)) (sm : Int) (em : Int) (nm : ByteArray),
  (laws_big.f l0 = some false) ∧
  (spec_DrawPutChain.f k l0 = some (fc, lc, la, sa, ea, na)) ∧
  (impl_PutChain.f k fc lc la sa ea na = some (fx, lx, fresh)) ∧
  (spec_PutChain.f k fc lc la sa ea na = some (fy, ly, fresh)) ∧
  (spec_DrawChainOk.f k l0 = some (fo, lo)) ∧
  (spec_DrawSameChain.f k l0 = some (fu, lu, fv, lv)) ∧
  (spec_DrawDropOver.f k l0 = some (fd, ld, now)) ∧
  (impl_DropOver4.f k fd ld now = some (fe, le, lg)) ∧
  (spec_DropOver.f k fd ld now = some (ff, lf, lw)) ∧
  (spec_DrawInChain.f k l0 = some (fg, lh, ll)) ∧
  (impl_SameChain.f k fx lx fy ly = some true) ∧
  (impl_ChainOk.f k fo lo = some oo) ∧
  (spec_ChainOk.f k fo lo = some oo) ∧
  (impl_SameChain.f k fu lu fv lv = some ss) ∧
  (spec_SameChain.f k fu lu fv lv = some ss) ∧
  (impl_SameChain.f k fe le ff lf = some true) ∧
  (laws_sameList.f k lg lw = some true) ∧
  (impl_InChain.f k fg lh ll = some gi) ∧
  (spec_InChain.f k fg lh ll = some gi) ∧
  (impl_InChain.f k fc lc la = some kc) ∧
  (impl_InChain.f k fx lx la = some ix) ∧
  (kc < 0 → impl_SameAlarm.f k ((rd_T29 lx ix).f0) ((rd_T29 lx ix).f1) ((rd_T29 lx ix).f2) ((rd_T29 lx ix).f3) la sa ea na = some true) ∧
  (0 ≤ kc → impl_Merge.f ((rd_T29 lc kc).f0) ((rd_T29 lc kc).f1) ((rd_T29 lc kc).f2) ((rd_T29 lc kc).f3) la sa ea na = some (lm, sm, em, nm)) ∧
  (0 ≤ kc → impl_SameAlarm.f k ((rd_T29 lx ix).f0) ((rd_T29 lx ix).f1) ((rd_T29 lx ix).f2) ((rd_T29 lx ix).f3) lm sm em nm = some true) ∧
  ((fresh != fresh) = false) ∧
  ((oo != oo) = false) ∧
  ((ss != ss) = false) ∧
  ((gi != gi) = false) ∧
  (decide (ix < 0) = false) ∧
  ((fresh != decide (kc < 0)) = false) ∧
  ((wrap64 ((lg.length : Int) + (le.length : Int)) != (ld.length : Int)) = false) ∧
  (lc.length ≤ lx.length) ∧
  (∀ m : Nat, m < lc.length → ((m : Int) != kc) = true → impl_SameAlarm.f k (rd_T29 lx (m : Int)).f0 (rd_T29 lx (m : Int)).f1 (rd_T29 lx (m : Int)).f2 (rd_T29 lx (m : Int)).f3 (rd_T29 lc (m : Int)).f0 (rd_T29 lc (m : Int)).f1 (rd_T29 lc (m : Int)).f2 (rd_T29 lc (m : Int)).f3 = some true) ∧
  (ix < (lx.length : Int)) ∧
  (kc < 0 → ((lx.length : Int) == wrap64 ((lc.length : Int) + 1)) = true) ∧
  (0 ≤ kc → kc < (lc.length : Int)) ∧
  (0 ≤ kc → ((lx.length : Int) == (lc.length : Int)) = true)
def laws_FnChains.Pure : Prop := ∀ (l0 : List Int), l0.length ≤ maxLen → l0.length * 1 ≤ 140737488351232 → (∀ x ∈ l0, (Lit.int .u8 x).wf = true) → ∃ k, laws_FnChains.Facts k l0
theorem laws_FnChains.walk (P : laws_FnChains.Pure) (a0 : Option Addr) (len0 cap0 : Nat) (z0 : List Int) (w : World) (w0 : (a0 = none ∧ len0 = 0 ∧ cap0 = 0 ∧ z0 = []) ∨ ∃ x, a0 = some x ∧ len0 ≤ cap0 ∧ cap0 ≤ maxLen ∧ z0.length = cap0 ∧ (∀ i, i < z0.length → w.cell? (x.add i) = some (.int .u8 (z0.getD i 0))) ∧ ∀ n ∈ z0, (Lit.int .u8 n).wf = true) (y0 : len0 * 1 ≤ 140737488351232) :
  Calls Try.prog 3 #[.slice a0 len0 cap0] w fun e w' => e = .returned (.bool true) ∧ Below w.heap.size w w' := by
 obtain ⟨l0, rfl, hr0, hm0, hw0, hc0⟩ := ReadsInt.ofRowC w0
 obtain ⟨k, h⟩ := P l0 hm0 y0 hw0
 have hr := Kd.C_of_reads (d := (0 : Int)) (h1 := fun _ => rfl) hr0
 rcases h with h | h
 · exact laws_FnChains.early _ _ l0 w hr hc0 ⟨h⟩
 · obtain ⟨fc, lc, la, sa, ea, na, fx, lx, fresh, fy, ly, fo, lo, fu, lu, fv, lv, fd, ld, now, fe, le, lg, ff, lf, lw, fg, lh, ll, oo, ss, gi, kc, ix, lm, sm, em, nm, h_0, h_1, h_2, h_3, h_4, h_5, h_6, h_7, h_8, h_9, h_10, h_11, h_12, h_13, h_14, h_15, h_16, h_17, h_18, h_19, h_20, h_21, h_22, h_23, h_24, h_25, h_26, h_27, h_28, h_29, h_30, h_31, h_32, h_33, h_34, h_35, h_36⟩ := h
   exact laws_FnChains.way k _ _ l0 w hr hc0 fc lc la sa ea na fx lx fresh fy ly fo lo fu lu fv lv fd ld now fe le lg ff lf lw fg lh ll oo ss gi kc ix lm sm em nm ⟨h_0⟩ ⟨h_1⟩ ⟨h_2⟩ ⟨h_3⟩ ⟨h_4⟩ ⟨h_5⟩ ⟨h_6⟩ ⟨h_7⟩ ⟨h_8⟩ ⟨h_9⟩ ⟨h_10⟩ ⟨h_11⟩ ⟨h_12⟩ ⟨h_13⟩ ⟨h_14⟩ ⟨h_15⟩ ⟨h_16⟩ ⟨h_17⟩ ⟨h_18⟩ ⟨h_19⟩ ⟨h_20⟩ ⟨h_21⟩ ⟨h_22⟩ ⟨h_23⟩ ⟨h_24⟩ ⟨h_25⟩ ⟨h_26⟩ ⟨h_27⟩ ⟨h_28⟩ ⟨h_29⟩ ⟨h_30⟩ ⟨h_31⟩ ⟨h_32⟩ ⟨h_33⟩ ⟨h_34⟩ ⟨h_35⟩ ⟨h_36⟩
end Go.Proofs.Ytdhignbneeapiaa.PFnChains
