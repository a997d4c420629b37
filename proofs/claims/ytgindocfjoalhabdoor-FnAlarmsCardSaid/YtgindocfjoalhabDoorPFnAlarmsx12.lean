/- What the Go functions that FnAlarms reaches compute, as Lean functions, and that the machine's calls do so; no conditions. -/
import Derived.Test.YtgindocfjoalhabDoorPFnAlarmsx0
import Derived.Test.YtgindocfjoalhabDoorPFnAlarmsx2
import Derived.Test.YtgindocfjoalhabDoorPFnAlarmsx3
import Derived.Test.YtgindocfjoalhabDoorPFnAlarmsx4
import Derived.Test.YtgindocfjoalhabDoorPFnAlarmsx7
import Derived.Test.YtgindocfjoalhabDoorPFnAlarmsx9
import Derived.Test.YtgindocfjoalhabDoorPFnAlarmsx10
import Derived.Test.YtgindocfjoalhabDoorPFnAlarmsx11
namespace Go.Proofs.YtgindocfjoalhabDoor.PFnAlarms
open Go.Proofs.YtgindocfjoalhabDoor
open Go.RowKit Go.Proofs.YtgindocfjoalhabDoorW.PrintWords Go.Proofs.YtgindocfjoalhabDoorW.PrintLast Go.Proofs.YtgindocfjoalhabDoorW.PrintMore
attribute [local go_sem] max2_int min2_int max_two min_two max_three min_three max_four min_four   -- for this text's walks alone
set_option linter.unusedVariables false
set_option linter.unusedSimpArgs false

/-! ### laws_FnAlarms: function 3 -/
def laws_FnAlarms.f (k : Nat) (l0 : List Int) : Option (Bool) := (laws_big.f l0).bind fun t450 => (if t450 = true then (some true) else ((spec_DrawAlarmOk.f k l0).bind fun bt451 => ((spec_DrawSameAlarm.f k l0).bind fun bt458 => ((spec_DrawOver.f k l0).bind fun bt472 => ((spec_DrawAlarmText.f k l0).bind fun bt480 => ((impl_AlarmOk.f k bt451.1 bt451.2.1 bt451.2.2.1 bt451.2.2.2).bind fun t487 => ((spec_AlarmOk.f k bt451.1 bt451.2.1 bt451.2.2.1 bt451.2.2.2).bind fun t488 => (if (t487 == t488) = true then ((impl_SameAlarm.f k bt458.1 bt458.2.1 bt458.2.2.1 bt458.2.2.2.1 bt458.2.2.2.2.1 bt458.2.2.2.2.2.1 bt458.2.2.2.2.2.2.1 bt458.2.2.2.2.2.2.2).bind fun t489 => ((spec_SameAlarm.f k bt458.1 bt458.2.1 bt458.2.2.1 bt458.2.2.2.1 bt458.2.2.2.2.1 bt458.2.2.2.2.2.1 bt458.2.2.2.2.2.2.1 bt458.2.2.2.2.2.2.2).bind fun t490 => (if (t489 == t490) = true then ((impl_SameAlarm.f k bt451.1 bt451.2.1 bt451.2.2.1 bt451.2.2.2 bt451.1 bt451.2.1 bt451.2.2.1 bt451.2.2.2).bind fun t491 => (if t491 = true then ((impl_Over.f bt472.1 bt472.2.1 bt472.2.2.1 bt472.2.2.2.1 bt472.2.2.2.2).bind fun t492 => ((spec_Over.f bt472.1 bt472.2.1 bt472.2.2.1 bt472.2.2.2.1 bt472.2.2.2.2).bind fun t493 => (if (t492 == t493) = true then ((impl_Over.f bt472.1 bt472.2.1 bt472.2.2.1 bt472.2.2.2.1 bt472.2.2.2.2).bind fun t494 => (if t494 = true then (if bt472.2.2.2.2 > 1099511627776 then ((impl_AlarmText.f k bt480.1 bt480.2.1 bt480.2.2.1 bt480.2.2.2).bind fun t495 => ((spec_AlarmText.f k bt480.1 bt480.2.1 bt480.2.2.1 bt480.2.2.2).bind fun t496 => (if t495.toList = t496.toList then ((impl_AlarmText.f k bt480.1 bt480.2.1 bt480.2.2.1 bt480.2.2.2).bind fun t497 => ((impl_AlarmOk.f k bt480.1 bt480.2.1 bt480.2.2.1 bt480.2.2.2).bind fun t498 => (some ((t497.toList != ([] : List UInt8)) == t498)))) else (some false)))) else ((impl_Over.f bt472.1 bt472.2.1 bt472.2.2.1 bt472.2.2.2.1 (wrap64 (bt472.2.2.2.2 + 1))).bind fun t499 => (if t499 = true then ((impl_AlarmText.f k bt480.1 bt480.2.1 bt480.2.2.1 bt480.2.2.2).bind fun t500 => ((spec_AlarmText.f k bt480.1 bt480.2.1 bt480.2.2.1 bt480.2.2.2).bind fun t501 => (if t500.toList = t501.toList then ((impl_AlarmText.f k bt480.1 bt480.2.1 bt480.2.2.1 bt480.2.2.2).bind fun t502 => ((impl_AlarmOk.f k bt480.1 bt480.2.1 bt480.2.2.1 bt480.2.2.2).bind fun t503 => (some ((t502.toList != ([] : List UInt8)) == t503)))) else (some false)))) else (some false)))) else ((impl_AlarmText.f k bt480.1 bt480.2.1 bt480.2.2.1 bt480.2.2.2).bind fun t504 => ((spec_AlarmText.f k bt480.1 bt480.2.1 bt480.2.2.1 bt480.2.2.2).bind fun t505 => (if t504.toList = t505.toList then ((impl_AlarmText.f k bt480.1 bt480.2.1 bt480.2.2.1 bt480.2.2.2).bind fun t506 => ((impl_AlarmOk.f k bt480.1 bt480.2.1 bt480.2.2.1 bt480.2.2.2).bind fun t507 => (some ((t506.toList != ([] : List UInt8)) == t507)))) else (some false)))))) else (some false)))) else (some false))) else (some false)))) else (some false)))))))))
def laws_FnAlarms.T7 : Bool × List (List Nat × List Nat) := (true, [([], []), ([0], [0]), ([], []), ([2, 1], [2]), ([1, 3], [1, 3]), ([4, 3], [4]), ([5], [5]), ([5], [5]), ([6, 7, 5, 5], [5, 6, 7]), ([5], [5]), ([5], [5]), ([9, 10, 8, 5], [5, 9, 10]), ([8, 11, 5], [5, 8, 11]), ([5, 12], [5, 12]), ([13, 11], [13]), ([14], [14]), ([14], [14]), ([15, 16, 14, 14], [14, 15, 16]), ([14, 17], [14, 17]), ([18, 17], [18]), ([19], [19]), ([19], [19]), ([20, 21, 19, 19], [19, 20, 21]), ([19], [19]), ([19], [19]), ([23, 24, 22, 19], [19, 23, 24]), ([22, 25, 19], [19, 22, 25]), ([19, 26], [19, 26]), ([27, 25], [27]), ([28], [28]), ([28], [28]), ([29, 30, 28, 28], [28, 29, 30]), ([31, 28], [28, 31]), ([32, 31, 28], [28, 32]), ([33], [33]), ([34, 33], [33, 34]), ([33, 35, 28], [28, 33, 35]), ([36, 33, 28], [28, 36]), ([37], [37]), ([37], [37]), ([39, 37], [37, 39]), ([38, 40, 37, 37], [37, 38, 40]), ([37, 41, 28], [28, 37, 41]), ([28, 42], [28, 42]), ([43, 41], [43]), ([44], [44]), ([45, 44, 44], [44, 45]), ([44], [44]), ([47, 46, 44], [44, 47]), ([46, 48, 44], [44, 46, 48]), ([44, 49], [44, 49]), ([50, 48], [50]), ([51], [51]), ([52, 51, 51], [51, 52]), ([53, 51], [51, 53]), ([51], [51]), ([55, 53, 51], [51, 55]), ([54, 56, 51], [51, 54, 56]), ([51, 57], [51, 57]), ([58, 56, 0, 1, 2, 3, 4, 5, 6, 7, 8, 9, 10, 11, 12, 13, 14, 15, 16, 17, 18, 19, 20, 21, 22, 23, 24, 25, 26, 27, 28, 29, 30, 31, 32, 33, 34, 35, 36, 37, 38, 39, 40, 41, 42, 43, 44, 45, 46, 47, 48, 49, 50, 51, 52, 53, 54, 55, 56, 57, 58], [58])])
def laws_FnAlarms.B7 : List Nat := [0, 1, 0, 7, 15, 31, 63, 63, 255, 63, 63, 2047, 4095, 8191, 16383, 32767, 32767, 131071, 262143, 524287, 1048575, 1048575, 4194303, 1048575, 1048575, 33554431, 67108863, 134217727, 268435455, 536870911, 536870911, 2147483647, 4294967295, 8589934591, 17179869183, 34359738367, 68719476735, 137438953471, 274877906943, 274877906943, 824633720831, 2199023255551, 4398046511103, 8796093022207, 17592186044415, 35184372088831, 70368744177663, 35184372088831, 281474976710655, 562949953421311, 1125899906842623, 2251799813685247, 4503599627370495, 9007199254740991, 18014398509481983, 4503599627370495, 54043195528445951, 144115188075855871, 288230376151711743, 576460752303423487]
theorem laws_FnAlarms.tab7 : rtab .any (opsOf Tryd.f3 7) = laws_FnAlarms.T7 := by kernel_rfl
theorem laws_FnAlarms.bits7 : waitsOk laws_FnAlarms.T7.2 laws_FnAlarms.B7 = true := by kernel_rfl
/-- What is told of the world stays told where only new blocks come up. -/
structure Gs (Φ : World → Prop) (W : World) : Prop where
  at_ : Φ W
  st : ∀ {V V' : World}, Below V.heap.size V V' → Φ V → Φ V'
theorem Gs.go {Φ : World → Prop} {W W' : World} (h : Gs Φ W) (hb : Below W.heap.size W W') : Gs Φ W' := ⟨h.st hb h.at_, h.st⟩
theorem Gs.add {Φ Ψ : World → Prop} {W : World} (h : Gs Φ W) (k : Gs Ψ W) : Gs (fun w => Φ w ∧ Ψ w) W := ⟨⟨h.at_, k.at_⟩, fun hb hp => ⟨h.st hb hp.1, k.st hb hp.2⟩⟩
theorem Gs.left {Φ Ψ : World → Prop} {W : World} (h : Gs Φ W) (hd : ∀ {V V' : World}, Below V.heap.size V V' → Ψ V → Ψ V') (hk : ∀ w, Φ w → Ψ w) : Gs Ψ W := ⟨hk W h.at_, hd⟩
theorem Gs.below (w : World) : Gs (fun W => Below w.heap.size w W) w := ⟨Below.refl _ _, fun hb h => below_step h hb⟩
theorem Gs.cell {a : Addr} {v : Value} {W : World} (h : W.cell? a = some v) : Gs (fun W => W.cell? a = some v) W := ⟨h, fun hb h => pw_cell_below hb h⟩
theorem Gs.row {α : Type} {d : Kd α} {A : Option Addr} {n : Nat} {xs : List α} {W : World} (h : d.C W A n xs) : Gs (fun W => d.C W A n xs) W := ⟨h, fun hb h => Kd.C_below h hb⟩
def box4 (g : Nat) (b0 b1 b2 b3 : Value) (w : World) : Prop := w.cell? ⟨g, 0, none⟩ = some b0 ∧ w.cell? ⟨g, 1, none⟩ = some b1 ∧ w.cell? ⟨g, 2, none⟩ = some b2 ∧ w.cell? ⟨g, 3, none⟩ = some b3
theorem Gs.ofBox4 {g : Nat} {t : TypeId} {b0 b1 b2 b3 : Value} {W : World} (h : W.heap[g]? = some (.cells #[b0, b1, b2, b3] t (0, 0))) : Gs (box4 g b0 b1 b2 b3) W :=
  ⟨⟨(blk_cell h 0).trans rfl, (blk_cell h 1).trans rfl, (blk_cell h 2).trans rfl, (blk_cell h 3).trans rfl⟩, fun hb h => ⟨pw_cell_below hb h.1, pw_cell_below hb h.2.1, pw_cell_below hb h.2.2.1, pw_cell_below hb h.2.2.2⟩⟩
theorem set4_blk {W : World} {g : Nat} {t : TypeId} {c0 c1 c2 c3 b0 b1 b2 b3 : Value} (h : W.heap[g]? = some (.cells #[c0, c1, c2, c3] t (0, 0))) :
    ((((W.setCell ⟨g, 0, none⟩ b0).setCell ⟨g, 1, none⟩ b1).setCell ⟨g, 2, none⟩ b2).setCell ⟨g, 3, none⟩ b3).heap[g]? = some (.cells #[b0, b1, b2, b3] t (0, 0)) :=
  blk_put (blk_put (blk_put (blk_put h 0 b0 rfl) 1 b1 rfl) 2 b2 rfl) 3 b3 rfl
theorem set4_far {W : World} {g k : Nat} {o : Obj} {b0 b1 b2 b3 : Value} (h : W.heap[k]? = some o) (hk : k ≠ g) :
    ((((W.setCell ⟨g, 0, none⟩ b0).setCell ⟨g, 1, none⟩ b1).setCell ⟨g, 2, none⟩ b2).setCell ⟨g, 3, none⟩ b3).heap[k]? = some o :=
  (Below.heap_setCell _ ⟨g, 3, none⟩ b3 k hk).trans ((Below.heap_setCell _ ⟨g, 2, none⟩ b2 k hk).trans ((Below.heap_setCell _ ⟨g, 1, none⟩ b1 k hk).trans ((Below.heap_setCell _ ⟨g, 0, none⟩ b0 k hk).trans h)))
theorem set4_below {V W : World} {g : Nat} {b0 b1 b2 b3 : Value} (h : Below V.heap.size V W) (hg : V.heap.size ≤ g) :
    Below V.heap.size V ((((W.setCell ⟨g, 0, none⟩ b0).setCell ⟨g, 1, none⟩ b1).setCell ⟨g, 2, none⟩ b2).setCell ⟨g, 3, none⟩ b3) :=
  below_set (below_set (below_set (below_set h hg) hg) hg) hg
/-- A variable of four cells, made and written. -/
theorem Gs.put4 {Φ : World → Prop} {V W : World} {g : Nat} {t : TypeId} {c0 c1 c2 c3 : Value} (b0 b1 b2 b3 : Value) (G : Gs Φ V) (hb : Aside0 (Below V.heap.size V W)) (hg : Aside0 (g = V.heap.size)) (hx : Aside0 (W.heap[g]? = some (.cells #[c0, c1, c2, c3] t (0, 0)))) :
    Gs (fun w => Φ w ∧ box4 g b0 b1 b2 b3 w) ((((W.setCell ⟨g, 0, none⟩ b0).setCell ⟨g, 1, none⟩ b1).setCell ⟨g, 2, none⟩ b2).setCell ⟨g, 3, none⟩ b3) :=
  (G.go (set4_below hb.out (Nat.le_of_eq hg.out.symm))).add (Gs.ofBox4 (set4_blk hx.out))
/-- Two variables of four cells, made, then written. -/
theorem Gs.put44 {Φ : World → Prop} {V W X : World} {g g' : Nat} {t t' : TypeId} {c0 c1 c2 c3 c0' c1' c2' c3' : Value} (b0 b1 b2 b3 b0' b1' b2' b3' : Value) (G : Gs Φ V) (hb : Aside0 (Below V.heap.size V W)) (hg : Aside0 (g = V.heap.size)) (hx : Aside0 (W.heap[g]? = some (.cells #[c0, c1, c2, c3] t (0, 0))))
    (hb' : Aside0 (Below W.heap.size W X)) (hg' : Aside0 (g' = W.heap.size)) (hx' : Aside0 (X.heap[g']? = some (.cells #[c0', c1', c2', c3'] t' (0, 0)))) :
    Gs (fun w => (Φ w ∧ box4 g b0 b1 b2 b3 w) ∧ box4 g' b0' b1' b2' b3' w) ((((((((X.setCell ⟨g, 0, none⟩ b0).setCell ⟨g, 1, none⟩ b1).setCell ⟨g, 2, none⟩ b2).setCell ⟨g, 3, none⟩ b3).setCell ⟨g', 0, none⟩ b0').setCell ⟨g', 1, none⟩ b1').setCell ⟨g', 2, none⟩ b2').setCell ⟨g', 3, none⟩ b3') := by
  have hlt := blk_lt hx.out
  have hne : g ≠ g' := by rw [hg'.out]; omega
  have e1 : V.heap.size ≤ g := Nat.le_of_eq hg.out.symm
  have e2 : V.heap.size ≤ g' := by rw [hg'.out]; exact hb.out.size
  exact ((G.go (set4_below (set4_below (below_step hb.out hb'.out) e1) e2)).add (Gs.ofBox4 (set4_far (set4_blk (blk_below hx.out hb'.out)) hne))).add (Gs.ofBox4 (set4_blk (set4_far hx'.out (Ne.symm hne))))
section
open Go.Proofs.YtgindocfjoalhabDoorW.PrintLast
variable {P : Program} {ops : Array Oper} {Q : Exit → Act → World → Prop} {Φ : World → Prop} {n m fuel : Nat} {a : Act} {w : World} {T : Bool × List (List Nat × List Nat)} {B : List Nat}
theorem bz_nil (n : Nat) : Array.replicate n false = bz n 0 := by
  unfold bz
  rw [List.map_eq_replicate_iff.2 (fun x _ => Nat.zero_testBit x)]
  simp
/-- A region that draws its order, at its head. -/
theorem reg {id : Nat} (G : Gs Φ w) (hm : P.follows .mixedOrders = true) (hn : ops.size = n) (hT : rtab .any ops = T) (hB : waitsOk T.2 B = true)
    (h : ∀ W, Gs Φ W → Aside0 (rtab .any ops = T) → Aside0 (waitsOk T.2 B = true) → wpAnyLast P .any ops Q Φ [] n (bz n 0) a W) : (Code.region id ops true).wp P Q a w :=
  start_ (bz n 0) hm hn (bz_nil n) (G.go (below_drew (Below.refl _ _))).at_ (fun _ => h _ (G.go (below_drew (Below.refl _ _))) ⟨hT⟩ ⟨hB⟩)
/-- A call in such a region. -/
theorem rc {oi : Oper} (i : Nat) (t : Tmp) (m' : Nat) (HT : Aside0 (rtab .any ops = T)) (hi : ops[i]? = some oi) (hN : oi.dst = some t) (hc : (readyT T.2 (bz n m).toList == [i] && (bz n m).toList.set i true == (bz n m').toList) = true)
    {f : FuncId} {fn : Func} {ars : Array Operand} {ts : Array TypeId} (hf : P.funcs[f]? = some fn) (hname : (fn.name == "runtime.NumGoroutine") = false) (hb : fn.body.isSome = true) (hop : oi.op = .call { callee := .value (.func f), args := ars, argTypes := ts }) (args : Array Value)
    (hw : Region.wanted oi (yielded ops a.tmps) = true) (hargs : ars.map a.eval = args)
    (h : Calls P f args w fun e w' => ∃ v, e = .returned v ∧ Φ w' ∧ ∀ a', a.put (some t) v = a' → wpAnyLast P .any ops Q Φ [] fuel (bz n m') a' w') : wpAnyLast P .any ops Q Φ [] (fuel + 1) (bz n m) a w := by
  refine one_ (bz n m') hi hN (one_of HT.out hc) (by simp) (fun K hK => ?_)
  refine goes_ hf hname hb args hw hN hop hargs (h.mono fun e w' hh => ?_)
  obtain ⟨v, he, hp, hr⟩ := hh
  exact ⟨v, he, hK.out _ _ hp (fun _ => hr _ rfl)⟩
end
set_option maxHeartbeats 8000000 in
set_option maxRecDepth 100000 in
theorem laws_FnAlarms.way (k : Nat) (A0 : Option Addr) (c0 : Nat) (l0 : List Int) (w : World) (hr0 : Kd.C (Kd.int .u8) w A0 l0.length l0) (hc0 : l0.length ≤ c0) (hG : Foreign.Laid w) (la : List S56) (sa ea : Int) (na : ByteArray) (lb : List S56) (sb eb : Int) (nb : ByteArray) (lc : List S56) (sc ec : Int) (nc : ByteArray) (ld : List S56) (sd ed : Int) (nd : ByteArray) (lt : List S56) (st et : Int) (nt : ByteArray) (x : Int) (o1 o1' o2 o2' ov ov' o3 : Bool) (tx tx' : ByteArray)
  (E0 : Aside0 (laws_big.f l0 = some false)) (E1 : Aside0 (spec_DrawAlarmOk.f k l0 = some (la, sa, ea, na))) (E2 : Aside0 (spec_DrawSameAlarm.f k l0 = some (lb, sb, eb, nb, lc, sc, ec, nc))) (E3 : Aside0 (spec_DrawOver.f k l0 = some (ld, sd, ed, nd, x))) (E4 : Aside0 (spec_DrawAlarmText.f k l0 = some (lt, st, et, nt)))
  (F1 : Aside0 (impl_AlarmOk.f k la sa ea na = some o1)) (F2 : Aside0 (spec_AlarmOk.f k la sa ea na = some o1')) (F3 : Aside0 (impl_SameAlarm.f k lb sb eb nb lc sc ec nc = some o2)) (F4 : Aside0 (spec_SameAlarm.f k lb sb eb nb lc sc ec nc = some o2')) (F5 : Aside0 (impl_SameAlarm.f k la sa ea na la sa ea na = some true)) (F6 : Aside0 (impl_Over.f ld sd ed nd x = some ov)) (F7 : Aside0 (spec_Over.f ld sd ed nd x = some ov'))
  (F8 : Aside0 (ov = true → ¬ x > 1099511627776 → impl_Over.f ld sd ed nd (wrap64 (x + 1)) = some true)) (F9 : Aside0 (impl_AlarmText.f k lt st et nt = some tx)) (F10 : Aside0 (spec_AlarmText.f k lt st et nt = some tx')) (F11 : Aside0 (impl_AlarmOk.f k lt st et nt = some o3))
  (h1 : (o1 == o1') = true) (h2 : (o2 == o2') = true) (h3 : (ov == ov') = true) (h4 : (tx.toList == tx'.toList) = true) (h5 : ((tx.toList != ([] : List UInt8)) == o3) = true) :
  Calls Tryd.prog 3 #[.slice A0 l0.length c0] w fun e w' => e = .returned (.bool true) ∧ Below w.heap.size w w' := by
 have hu26 := Tryd.underlying26
 have HC0 := aM hc0
 have HG := aM hG
 have H1 := aM h1; have H2 := aM h2; have H3 := aM h3; have H4 := aM h4
 have h5' : ((!tx.toList.isEmpty) == o3) = true := by
   have e : (tx.toList != ([] : List UInt8)) = !tx.toList.isEmpty := by cases tx.toList <;> rfl
   rw [← e]; exact h5
 have H5 := aM h5'
 have G := (Gs.below w).add (Gs.row hr0)
 clear hc0 hG hr0 h1 h2 h3 h4 h5 h5'
 go_enter Tryd.func3, Tryd.ntmps3
 go_wp2_with (first | ((with_reducible refine gate_callee (f := 4) rfl ?_); refine goesL_ (some 10) rfl rfl Tryd.func4 (by kernel_rfl) rfl #[.slice A0 l0.length c0] rfl (by (try simp only [List.map_toArray, List.map_cons, List.map_nil]); first | done | rfl) ?_; refine (laws_big.calls  _ _ l0 false _ G.at_.2 HC0.out E0.out).mono ?_; rintro e w1 ⟨rfl, hd⟩; refine ⟨_, rfl, ?_⟩; have G1 := G.go hd.below; clear G hd; have G := G1; clear G1) | ((with_reducible refine gate_callee (f := 5) rfl ?_); refine goesL_ (some 12) rfl rfl Tryd.func5 (by kernel_rfl) rfl #[.slice A0 l0.length c0] rfl (by (try simp only [List.map_toArray, List.map_cons, List.map_nil]); first | done | rfl) ?_; refine (spec_DrawAlarmOk.calls k _ _ l0 la sa ea na _ G.at_.2 HC0.out E1.out).mono ?_; rintro e w1 ⟨v, rfl, hoa, hb⟩; refine ⟨_, rfl, ?_⟩; obtain ⟨A3, c3, rfl, hca, hx⟩ := Kd.R_reads hoa; have HCa := aM hca; have G1 := (G.go hb).add (Gs.row hx); clear G hb hx hoa hca; have G := G1; clear G1) | ((with_reducible refine gate_dst (N := 3) rfl ?_); refine box_event ?hg (N := 3) ?hd (cs := #[.slice none 0 0, .int .i64 0, .int .i64 0, .string (⟨#[]⟩ : ByteArray)]) (t := 26) ?hr ?_; (case hd => rfl); (case hg => rfl); (case hr => first | (go_simp; done) | (go_simp; rfl)); intro g3 hg w2 hbox hb; have HB_g3 := aM hb; have HE_g3 := aM hg; have BK_g3 := aM hbox; clear hb hg hbox; have za_0 := cz4_0 ⟨BK_g3.out⟩; have ya_0 := blk_frozen (BK_g3.out) 0; have za_1 := cz4_1 ⟨BK_g3.out⟩; have ya_1 := blk_frozen (BK_g3.out) 1; have za_2 := cz4_2 ⟨BK_g3.out⟩; have ya_2 := blk_frozen (BK_g3.out) 2; have za_3 := cz4_3 ⟨BK_g3.out⟩; have ya_3 := blk_frozen (BK_g3.out) 3) | ((with_reducible refine gate_callee (f := 6) rfl ?_); refine goesL_ (some 15) rfl rfl Tryd.func6 (by kernel_rfl) rfl #[.slice A0 l0.length c0] rfl (by (try simp only [List.map_toArray, List.map_cons, List.map_nil]); first | done | rfl) ?_; have G1 := Gs.put4 (.slice A3 la.length c3) (.int .i64 sa) (.int .i64 ea) (.string na) G HB_g3 HE_g3 BK_g3; refine (spec_DrawSameAlarm.calls k _ _ l0 lb sb eb nb lc sc ec nc _ G1.at_.1.1.2 HC0.out E2.out).mono ?_; rintro e w1 ⟨v, v', rfl, hob, hoc, hb⟩; refine ⟨_, rfl, ?_⟩; obtain ⟨A4, c4, rfl, hcb, hx⟩ := Kd.R_reads hob; obtain ⟨A5, c5, rfl, hcc, hy⟩ := Kd.R_reads hoc; have HCb := aM hcb; have HCc := aM hcc; have G2 := ((G1.go hb).add (Gs.row hx)).add (Gs.row hy); clear G G1 hb hx hy hob hoc hcb hcc; have G := G2; clear G2) | ((with_reducible refine gate_dst (N := 4) rfl ?_); refine box_event ?hg (N := 4) ?hd (cs := #[.slice none 0 0, .int .i64 0, .int .i64 0, .string (⟨#[]⟩ : ByteArray)]) (t := 26) ?hr ?_; (case hd => rfl); (case hg => rfl); (case hr => first | (go_simp; done) | (go_simp; rfl)); intro g4 hg w2 hbox hb; have HB_g4 := aM hb; have HE_g4 := aM hg; have BK_g4 := aM hbox; clear hb hg hbox) | ((with_reducible refine gate_dst (N := 5) rfl ?_); refine box_event ?hg (N := 5) ?hd (cs := #[.slice none 0 0, .int .i64 0, .int .i64 0, .string (⟨#[]⟩ : ByteArray)]) (t := 26) ?hr ?_; (case hd => rfl); (case hg => rfl); (case hr => first | (go_simp; done) | (go_simp; rfl)); intro g5 hg w2 hbox hb; have HB_g5 := aM hb; have HE_g5 := aM hg; have BK_g5 := aM hbox; clear hb hg hbox; have zb_0 := cz4_0 ⟨blk_below BK_g4.out HB_g5.out⟩; have yb_0 := blk_frozen (blk_below BK_g4.out HB_g5.out) 0; have zb_1 := cz4_1 ⟨blk_below BK_g4.out HB_g5.out⟩; have yb_1 := blk_frozen (blk_below BK_g4.out HB_g5.out) 1; have zb_2 := cz4_2 ⟨blk_below BK_g4.out HB_g5.out⟩; have yb_2 := blk_frozen (blk_below BK_g4.out HB_g5.out) 2; have zb_3 := cz4_3 ⟨blk_below BK_g4.out HB_g5.out⟩; have yb_3 := blk_frozen (blk_below BK_g4.out HB_g5.out) 3; have zc_0 := cz4_0 ⟨BK_g5.out⟩; have yc_0 := blk_frozen (BK_g5.out) 0; have zc_1 := cz4_1 ⟨BK_g5.out⟩; have yc_1 := blk_frozen (BK_g5.out) 1; have zc_2 := cz4_2 ⟨BK_g5.out⟩; have yc_2 := blk_frozen (BK_g5.out) 2; have zc_3 := cz4_3 ⟨BK_g5.out⟩; have yc_3 := blk_frozen (BK_g5.out) 3; have hne : g4 ≠ g5 := (by rw [HE_g5.out]; exact Nat.ne_of_lt (blk_lt BK_g4.out)); have hne' : g5 ≠ g4 := fun h_ => hne h_.symm) | ((with_reducible refine gate_callee (f := 7) rfl ?_); refine goesL_ (some 20) rfl rfl Tryd.func7 (by kernel_rfl) rfl #[.slice A0 l0.length c0] rfl (by (try simp only [List.map_toArray, List.map_cons, List.map_nil]); first | done | rfl) ?_; have G1 := Gs.put44 (.slice A4 lb.length c4) (.int .i64 sb) (.int .i64 eb) (.string nb) (.slice A5 lc.length c5) (.int .i64 sc) (.int .i64 ec) (.string nc) G HB_g4 HE_g4 BK_g4 HB_g5 HE_g5 BK_g5; refine (spec_DrawOver.calls k _ _ l0 ld sd ed nd x _ G1.at_.1.1.1.1.1.1.2 HC0.out E3.out).mono ?_; rintro e w1 ⟨v, rfl, hod, hb⟩; refine ⟨_, rfl, ?_⟩; obtain ⟨A6, c6, rfl, hcd, hx⟩ := Kd.R_reads hod; have HCd := aM hcd; have G2 := (G1.go hb).add (Gs.row hx); clear G G1 hb hx hod hcd; have G := G2; clear G2) | ((with_reducible refine gate_dst (N := 6) rfl ?_); refine box_event ?hg (N := 6) ?hd (cs := #[.slice none 0 0, .int .i64 0, .int .i64 0, .string (⟨#[]⟩ : ByteArray)]) (t := 26) ?hr ?_; (case hd => rfl); (case hg => rfl); (case hr => first | (go_simp; done) | (go_simp; rfl)); intro g6 hg w2 hbox hb; have HB_g6 := aM hb; have HE_g6 := aM hg; have BK_g6 := aM hbox; clear hb hg hbox; have zd_0 := cz4_0 ⟨BK_g6.out⟩; have yd_0 := blk_frozen (BK_g6.out) 0; have zd_1 := cz4_1 ⟨BK_g6.out⟩; have yd_1 := blk_frozen (BK_g6.out) 1; have zd_2 := cz4_2 ⟨BK_g6.out⟩; have yd_2 := blk_frozen (BK_g6.out) 2; have zd_3 := cz4_3 ⟨BK_g6.out⟩; have yd_3 := blk_frozen (BK_g6.out) 3) | ((with_reducible refine gate_callee (f := 8) rfl ?_); refine goesL_ (some 24) rfl rfl Tryd.func8 (by kernel_rfl) rfl #[.slice A0 l0.length c0] rfl (by (try simp only [List.map_toArray, List.map_cons, List.map_nil]); first | done | rfl) ?_; have G1 := Gs.put4 (.slice A6 ld.length c6) (.int .i64 sd) (.int .i64 ed) (.string nd) G HB_g6 HE_g6 BK_g6; refine (spec_DrawAlarmText.calls k _ _ l0 lt st et nt _ G1.at_.1.1.1.1.1.1.1.1.2 HC0.out E4.out).mono ?_; rintro e w1 ⟨v, rfl, hot, hb⟩; refine ⟨_, rfl, ?_⟩; obtain ⟨A8, c8, rfl, hct, hx⟩ := Kd.R_reads hot; have HCt := aM hct; have G2 := (G1.go hb).add (Gs.row hx); clear G G1 hb hx hot hct; have G := G2; clear G2) | ((with_reducible refine gate_dst (N := 8) rfl ?_); refine box_event ?hg (N := 8) ?hd (cs := #[.slice none 0 0, .int .i64 0, .int .i64 0, .string (⟨#[]⟩ : ByteArray)]) (t := 26) ?hr ?_; (case hd => rfl); (case hg => rfl); (case hr => first | (go_simp; done) | (go_simp; rfl)); intro g8 hg w2 hbox hb; have HB_g8 := aM hb; have HE_g8 := aM hg; have BK_g8 := aM hbox; clear hb hg hbox; have zt_0 := cz4_0 ⟨BK_g8.out⟩; have yt_0 := blk_frozen (BK_g8.out) 0; have zt_1 := cz4_1 ⟨BK_g8.out⟩; have yt_1 := blk_frozen (BK_g8.out) 1; have zt_2 := cz4_2 ⟨BK_g8.out⟩; have yt_2 := blk_frozen (BK_g8.out) 2; have zt_3 := cz4_3 ⟨BK_g8.out⟩; have yt_3 := blk_frozen (BK_g8.out) 3))
 have G1 := Gs.put4 (.slice A8 lt.length c8) (.int .i64 st) (.int .i64 et) (.string nt) G HB_g8 HE_g8 BK_g8
 clear G; have G := G1; clear G1
 refine reg G (by kernel_rfl) rfl laws_FnAlarms.tab7 laws_FnAlarms.bits7 (fun wr G' HT_ HW_ => ?_)
 clear G; have G := G'; clear G'
 have h1 := H1.out; have h2 := H2.out; have h3 := H3.out; have h4 := H4.out; have h5 := H5.out
 refine (tk 0 (some 25) 1 ?_ ?_ HT_ HW_ rfl rfl (by kernel_rfl) (fun _ _ _ h => h) G.at_ ?_ ?_ ?_ (tk 2 (some 27) 5 ?_ ?_ HT_ HW_ rfl rfl (by kernel_rfl) (fun _ _ _ h => h) G.at_ ?_ ?_ ?_ ?_))
 all_goals first | (rintro w' ⟨⟨⟨⟨⟨⟨⟨⟨⟨⟨⟨-, -⟩, -⟩, ⟨s0, s1, s2, s3⟩⟩, -⟩, -⟩, ⟨s4, s5, s6, s7⟩⟩, ⟨s8, s9, s10, s11⟩⟩, -⟩, ⟨s12, s13, s14, s15⟩⟩, -⟩, ⟨s16, s17, s18, s19⟩⟩; go_simp; with_reducible rfl) | (intro w'; go_simp; with_reducible rfl) | (simp only [Act.put, List.setIfInBounds_toArray, List.set_cons_zero, List.set_cons_succ, i64_w, i32_w]; rfl) | rfl | skip
 refine rc 1 26 7 HT_ rfl rfl (by kernel_rfl) Tryd.func9 (by kernel_rfl) rfl rfl #[.agg #[.slice A3 la.length c3, .int .i64 sa, .int .i64 ea, .string na]] (by rfl) (by (try simp only [List.map_toArray, List.map_cons, List.map_nil]); first | done | rfl) ?_
 refine (impl_AlarmOk.calls k _ _ la sa ea na o1 _ G.at_.1.1.1.1.1.1.1.1.1.2 HCa.out F1.out).mono ?_
 rintro e w' ⟨rfl, hb⟩
 replace G := G.go hb
 refine ⟨_, rfl, G.at_, ?_⟩; intro a' ha; simp only [Act.put, List.setIfInBounds_toArray, List.set_cons_zero, List.set_cons_succ, i64_w, i32_w] at ha; subst ha; clear hb
 refine rc 3 28 15 HT_ rfl rfl (by kernel_rfl) Tryd.func10 (by kernel_rfl) rfl rfl #[.agg #[.slice A3 la.length c3, .int .i64 sa, .int .i64 ea, .string na]] (by rfl) (by (try simp only [List.map_toArray, List.map_cons, List.map_nil]); first | done | rfl) ?_
 refine (spec_AlarmOk.calls k _ _ la sa ea na o1' _ G.at_.1.1.1.1.1.1.1.1.1.2 HCa.out F2.out).mono ?_
 rintro e w' ⟨rfl, hb⟩
 replace G := G.go hb
 refine ⟨_, rfl, G.at_, ?_⟩; intro a' ha; simp only [Act.put, List.setIfInBounds_toArray, List.set_cons_zero, List.set_cons_succ, i64_w, i32_w] at ha; subst ha; clear hb
 refine (pu 4 (some 29) 31 ?_ ?_ HT_ rfl rfl (by kernel_rfl) (fun _ _ _ h => h) ?_ ?_ ?_ (pu 5 (some 30) 63 ?_ ?_ HT_ rfl rfl (by kernel_rfl) (fun _ _ _ h => h) ?_ ?_ ?_ (tk 6 (some 31) 127 ?_ ?_ HT_ HW_ rfl rfl (by kernel_rfl) (fun _ _ _ h => h) G.at_ ?_ ?_ ?_ (tk 7 (some 32) 255 ?_ ?_ HT_ HW_ rfl rfl (by kernel_rfl) (fun _ _ _ h => h) G.at_ ?_ ?_ ?_ (tk 9 (some 34) 767 ?_ ?_ HT_ HW_ rfl rfl (by kernel_rfl) (fun _ _ _ h => h) G.at_ ?_ ?_ ?_ (tk 10 (some 35) 1791 ?_ ?_ HT_ HW_ rfl rfl (by kernel_rfl) (fun _ _ _ h => h) G.at_ ?_ ?_ ?_ ?_))))))
 all_goals first | (rintro w' ⟨⟨⟨⟨⟨⟨⟨⟨⟨⟨⟨-, -⟩, -⟩, ⟨s0, s1, s2, s3⟩⟩, -⟩, -⟩, ⟨s4, s5, s6, s7⟩⟩, ⟨s8, s9, s10, s11⟩⟩, -⟩, ⟨s12, s13, s14, s15⟩⟩, -⟩, ⟨s16, s17, s18, s19⟩⟩; go_simp; with_reducible rfl) | (intro w'; go_simp; with_reducible rfl) | (simp only [Act.put, List.setIfInBounds_toArray, List.set_cons_zero, List.set_cons_succ, i64_w, i32_w]; rfl) | rfl | skip
 refine rc 8 33 2047 HT_ rfl rfl (by kernel_rfl) Tryd.func11 (by kernel_rfl) rfl rfl #[.agg #[.slice A4 lb.length c4, .int .i64 sb, .int .i64 eb, .string nb], .agg #[.slice A5 lc.length c5, .int .i64 sc, .int .i64 ec, .string nc]] (by rfl) (by (try simp only [List.map_toArray, List.map_cons, List.map_nil]); first | done | rfl) ?_
 refine (impl_SameAlarm.calls k _ _ lb sb eb nb _ _ lc sc ec nc o2 _ G.at_.1.1.1.1.1.1.1.2 HCb.out G.at_.1.1.1.1.1.1.2 HCc.out F3.out).mono ?_
 rintro e w' ⟨rfl, hb⟩
 replace G := G.go hb
 refine ⟨_, rfl, G.at_, ?_⟩; intro a' ha; simp only [Act.put, List.setIfInBounds_toArray, List.set_cons_zero, List.set_cons_succ, i64_w, i32_w] at ha; subst ha; clear hb
 refine rc 11 36 4095 HT_ rfl rfl (by kernel_rfl) Tryd.func12 (by kernel_rfl) rfl rfl #[.agg #[.slice A4 lb.length c4, .int .i64 sb, .int .i64 eb, .string nb], .agg #[.slice A5 lc.length c5, .int .i64 sc, .int .i64 ec, .string nc]] (by rfl) (by (try simp only [List.map_toArray, List.map_cons, List.map_nil]); first | done | rfl) ?_
 refine (spec_SameAlarm.calls k _ _ lb sb eb nb _ _ lc sc ec nc o2' _ G.at_.1.1.1.1.1.1.1.2 HCb.out G.at_.1.1.1.1.1.1.2 HCc.out F4.out).mono ?_
 rintro e w' ⟨rfl, hb⟩
 replace G := G.go hb
 refine ⟨_, rfl, G.at_, ?_⟩; intro a' ha; simp only [Act.put, List.setIfInBounds_toArray, List.set_cons_zero, List.set_cons_succ, i64_w, i32_w] at ha; subst ha; clear hb
 refine (pu 12 (some 37) 8191 ?_ ?_ HT_ rfl rfl (by kernel_rfl) (fun _ _ _ h => h) ?_ ?_ ?_ (pu 13 (some 38) 16383 ?_ ?_ HT_ rfl rfl (by kernel_rfl) (fun _ _ _ h => h) ?_ ?_ ?_ (pu 14 (some 39) 32767 ?_ ?_ HT_ rfl rfl (by kernel_rfl) (fun _ _ _ h => h) ?_ ?_ ?_ (tk 15 (some 40) 65535 ?_ ?_ HT_ HW_ rfl rfl (by kernel_rfl) (fun _ _ _ h => h) G.at_ ?_ ?_ ?_ (tk 16 (some 41) 131071 ?_ ?_ HT_ HW_ rfl rfl (by kernel_rfl) (fun _ _ _ h => h) G.at_ ?_ ?_ ?_ ?_)))))
 all_goals first | (rintro w' ⟨⟨⟨⟨⟨⟨⟨⟨⟨⟨⟨-, -⟩, -⟩, ⟨s0, s1, s2, s3⟩⟩, -⟩, -⟩, ⟨s4, s5, s6, s7⟩⟩, ⟨s8, s9, s10, s11⟩⟩, -⟩, ⟨s12, s13, s14, s15⟩⟩, -⟩, ⟨s16, s17, s18, s19⟩⟩; go_simp; with_reducible rfl) | (intro w'; go_simp; with_reducible rfl) | (simp only [Act.put, List.setIfInBounds_toArray, List.set_cons_zero, List.set_cons_succ, i64_w, i32_w]; rfl) | rfl | skip
 refine rc 17 42 262143 HT_ rfl rfl (by kernel_rfl) Tryd.func11 (by kernel_rfl) rfl rfl #[.agg #[.slice A3 la.length c3, .int .i64 sa, .int .i64 ea, .string na], .agg #[.slice A3 la.length c3, .int .i64 sa, .int .i64 ea, .string na]] (by rfl) (by (try simp only [List.map_toArray, List.map_cons, List.map_nil]); first | done | rfl) ?_
 refine (impl_SameAlarm.calls k _ _ la sa ea na _ _ la sa ea na true _ G.at_.1.1.1.1.1.1.1.1.1.2 HCa.out G.at_.1.1.1.1.1.1.1.1.1.2 HCa.out F5.out).mono ?_
 rintro e w' ⟨rfl, hb⟩
 replace G := G.go hb
 refine ⟨_, rfl, G.at_, ?_⟩; intro a' ha; simp only [Act.put, List.setIfInBounds_toArray, List.set_cons_zero, List.set_cons_succ, i64_w, i32_w] at ha; subst ha; clear hb
 refine (pu 18 (some 43) 524287 ?_ ?_ HT_ rfl rfl (by kernel_rfl) (fun _ _ _ h => h) ?_ ?_ ?_ (pu 19 (some 44) 1048575 ?_ ?_ HT_ rfl rfl (by kernel_rfl) (fun _ _ _ h => h) ?_ ?_ ?_ (tk 20 (some 45) 2097151 ?_ ?_ HT_ HW_ rfl rfl (by kernel_rfl) (fun _ _ _ h => h) G.at_ ?_ ?_ ?_ (pu 21 (some 46) 4194303 ?_ ?_ HT_ rfl rfl (by kernel_rfl) (fun _ _ _ h => h) ?_ ?_ ?_ (tk 23 (some 48) 12582911 ?_ ?_ HT_ HW_ rfl rfl (by kernel_rfl) (fun _ _ _ h => h) G.at_ ?_ ?_ ?_ (pu 24 (some 49) 29360127 ?_ ?_ HT_ rfl rfl (by kernel_rfl) (fun _ _ _ h => h) ?_ ?_ ?_ ?_))))))
 all_goals first | (rintro w' ⟨⟨⟨⟨⟨⟨⟨⟨⟨⟨⟨-, -⟩, -⟩, ⟨s0, s1, s2, s3⟩⟩, -⟩, -⟩, ⟨s4, s5, s6, s7⟩⟩, ⟨s8, s9, s10, s11⟩⟩, -⟩, ⟨s12, s13, s14, s15⟩⟩, -⟩, ⟨s16, s17, s18, s19⟩⟩; go_simp; with_reducible rfl) | (intro w'; go_simp; with_reducible rfl) | (simp only [Act.put, List.setIfInBounds_toArray, List.set_cons_zero, List.set_cons_succ, i64_w, i32_w]; rfl) | rfl | skip
 refine rc 22 47 33554431 HT_ rfl rfl (by kernel_rfl) Tryd.func13 (by kernel_rfl) rfl rfl #[.agg #[.slice A6 ld.length c6, .int .i64 sd, .int .i64 ed, .string nd], .int .i64 x] (by rfl) (by (try simp only [List.map_toArray, List.map_cons, List.map_nil]); first | done | rfl) ?_
 refine (impl_Over.calls _ _ ld sd ed nd x ov _ G.at_.1.1.1.2 HCd.out F6.out).mono ?_
 rintro e w' ⟨rfl, hb⟩
 replace G := G.go hb
 refine ⟨_, rfl, G.at_, ?_⟩; intro a' ha; simp only [Act.put, List.setIfInBounds_toArray, List.set_cons_zero, List.set_cons_succ, i64_w, i32_w] at ha; subst ha; clear hb
 refine rc 25 50 67108863 HT_ rfl rfl (by kernel_rfl) Tryd.func14 (by kernel_rfl) rfl rfl #[.agg #[.slice A6 ld.length c6, .int .i64 sd, .int .i64 ed, .string nd], .int .i64 x] (by rfl) (by (try simp only [List.map_toArray, List.map_cons, List.map_nil]); first | done | rfl) ?_
 refine (spec_Over.calls _ _ ld sd ed nd x ov' _ G.at_.1.1.1.2 HCd.out F7.out).mono ?_
 rintro e w' ⟨rfl, hb⟩
 replace G := G.go hb
 refine ⟨_, rfl, G.at_, ?_⟩; intro a' ha; simp only [Act.put, List.setIfInBounds_toArray, List.set_cons_zero, List.set_cons_succ, i64_w, i32_w] at ha; subst ha; clear hb
 refine (pu 26 (some 51) 134217727 ?_ ?_ HT_ rfl rfl (by kernel_rfl) (fun _ _ _ h => h) ?_ ?_ ?_ (pu 27 (some 52) 268435455 ?_ ?_ HT_ rfl rfl (by kernel_rfl) (fun _ _ _ h => h) ?_ ?_ ?_ (pu 28 (some 53) 536870911 ?_ ?_ HT_ rfl rfl (by kernel_rfl) (fun _ _ _ h => h) ?_ ?_ ?_ (tk 29 (some 54) 1073741823 ?_ ?_ HT_ HW_ rfl rfl (by kernel_rfl) (fun _ _ _ h => h) G.at_ ?_ ?_ ?_ (pu 30 (some 55) 2147483647 ?_ ?_ HT_ rfl rfl (by kernel_rfl) (fun _ _ _ h => h) ?_ ?_ ?_ ?_)))))
 all_goals first | (rintro w' ⟨⟨⟨⟨⟨⟨⟨⟨⟨⟨⟨-, -⟩, -⟩, ⟨s0, s1, s2, s3⟩⟩, -⟩, -⟩, ⟨s4, s5, s6, s7⟩⟩, ⟨s8, s9, s10, s11⟩⟩, -⟩, ⟨s12, s13, s14, s15⟩⟩, -⟩, ⟨s16, s17, s18, s19⟩⟩; go_simp; with_reducible rfl) | (intro w'; go_simp; with_reducible rfl) | (simp only [Act.put, List.setIfInBounds_toArray, List.set_cons_zero, List.set_cons_succ, i64_w, i32_w]; rfl) | rfl | skip
 refine rc 31 56 4294967295 HT_ rfl rfl (by kernel_rfl) Tryd.func13 (by kernel_rfl) rfl rfl #[.agg #[.slice A6 ld.length c6, .int .i64 sd, .int .i64 ed, .string nd], .int .i64 x] (by rfl) (by (try simp only [List.map_toArray, List.map_cons, List.map_nil]); first | done | rfl) ?_
 refine (impl_Over.calls _ _ ld sd ed nd x ov _ G.at_.1.1.1.2 HCd.out F6.out).mono ?_
 rintro e w' ⟨rfl, hb⟩
 replace G := G.go hb
 refine ⟨_, rfl, G.at_, ?_⟩; intro a' ha; simp only [Act.put, List.setIfInBounds_toArray, List.set_cons_zero, List.set_cons_succ, i64_w, i32_w] at ha; subst ha; clear hb
 cases ov with
 | false =>
  refine (pu 32 (some 57) 8589934591 ?_ ?_ HT_ rfl rfl (by kernel_rfl) (fun _ _ _ h => h) ?_ ?_ ?_ (pu 33 (some 58) 17179869183 ?_ ?_ HT_ rfl rfl (by kernel_rfl) (fun _ _ _ h => h) ?_ ?_ ?_ (po 34 (some 59) 34359738367 ?_ HT_ rfl rfl (by kernel_rfl) (fun _ _ _ h => h) ?_ ?_ (po 35 (some 60) 68719476735 ?_ HT_ rfl rfl (by kernel_rfl) (fun _ _ _ h => h) ?_ ?_ (pu 36 (some 61) 137438953471 ?_ ?_ HT_ rfl rfl (by kernel_rfl) (fun _ _ _ h => h) ?_ ?_ ?_ (pu 37 (some 62) 274877906943 ?_ ?_ HT_ rfl rfl (by kernel_rfl) (fun _ _ _ h => h) ?_ ?_ ?_ (po 38 (some 63) 549755813887 ?_ HT_ rfl rfl (by kernel_rfl) (fun _ _ _ h => h) ?_ ?_ (po 39 (some 64) 1099511627775 ?_ HT_ rfl rfl (by kernel_rfl) (fun _ _ _ h => h) ?_ ?_ (po 40 (some 65) 2199023255551 ?_ HT_ rfl rfl (by kernel_rfl) (fun _ _ _ h => h) ?_ ?_ (po 41 (some 66) 4398046511103 ?_ HT_ rfl rfl (by kernel_rfl) (fun _ _ _ h => h) ?_ ?_ ?_))))))))))
  all_goals first | (rintro w' ⟨⟨⟨⟨⟨⟨⟨⟨⟨⟨⟨-, -⟩, -⟩, ⟨s0, s1, s2, s3⟩⟩, -⟩, -⟩, ⟨s4, s5, s6, s7⟩⟩, ⟨s8, s9, s10, s11⟩⟩, -⟩, ⟨s12, s13, s14, s15⟩⟩, -⟩, ⟨s16, s17, s18, s19⟩⟩; go_simp; with_reducible rfl) | (intro w'; go_simp; with_reducible rfl) | (simp only [Act.put, List.setIfInBounds_toArray, List.set_cons_zero, List.set_cons_succ, i64_w, i32_w]; rfl) | rfl | skip
  refine (pu 42 (some 67) 8796093022207 ?_ ?_ HT_ rfl rfl (by kernel_rfl) (fun _ _ _ h => h) ?_ ?_ ?_ (pu 43 (some 68) 17592186044415 ?_ ?_ HT_ rfl rfl (by kernel_rfl) (fun _ _ _ h => h) ?_ ?_ ?_ (pu 44 (some 69) 35184372088831 ?_ ?_ HT_ rfl rfl (by kernel_rfl) (fun _ _ _ h => h) ?_ ?_ ?_ (tk 45 (some 70) 70368744177663 ?_ ?_ HT_ HW_ rfl rfl (by kernel_rfl) (fun _ _ _ h => h) G.at_ ?_ ?_ ?_ (tk 47 (some 72) 211106232532991 ?_ ?_ HT_ HW_ rfl rfl (by kernel_rfl) (fun _ _ _ h => h) G.at_ ?_ ?_ ?_ ?_)))))
  all_goals first | (rintro w' ⟨⟨⟨⟨⟨⟨⟨⟨⟨⟨⟨-, -⟩, -⟩, ⟨s0, s1, s2, s3⟩⟩, -⟩, -⟩, ⟨s4, s5, s6, s7⟩⟩, ⟨s8, s9, s10, s11⟩⟩, -⟩, ⟨s12, s13, s14, s15⟩⟩, -⟩, ⟨s16, s17, s18, s19⟩⟩; go_simp; with_reducible rfl) | (intro w'; go_simp; with_reducible rfl) | (simp only [Act.put, List.setIfInBounds_toArray, List.set_cons_zero, List.set_cons_succ, i64_w, i32_w]; rfl) | rfl | skip
  refine rc 46 71 281474976710655 HT_ rfl rfl (by kernel_rfl) Tryd.func15 (by kernel_rfl) rfl rfl #[.agg #[.slice A8 lt.length c8, .int .i64 st, .int .i64 et, .string nt]] (by rfl) (by (try simp only [List.map_toArray, List.map_cons, List.map_nil]); first | done | rfl) ?_
  refine (impl_AlarmText.calls k _ _ lt st et nt tx _ G.at_.1.2 HCt.out F9.out (Foreign.laid_below HG.out (G.at_.1.1.1.1.1.1.1.1.1.1.1))).mono ?_
  rintro e w' ⟨rfl, hb⟩
  replace G := G.go hb
  refine ⟨_, rfl, G.at_, ?_⟩; intro a' ha; simp only [Act.put, List.setIfInBounds_toArray, List.set_cons_zero, List.set_cons_succ, i64_w, i32_w] at ha; subst ha; clear hb
  refine rc 48 73 562949953421311 HT_ rfl rfl (by kernel_rfl) Tryd.func16 (by kernel_rfl) rfl rfl #[.agg #[.slice A8 lt.length c8, .int .i64 st, .int .i64 et, .string nt]] (by rfl) (by (try simp only [List.map_toArray, List.map_cons, List.map_nil]); first | done | rfl) ?_
  refine (spec_AlarmText.calls k _ _ lt st et nt tx' _ G.at_.1.2 HCt.out F10.out).mono ?_
  rintro e w' ⟨rfl, hb⟩
  replace G := G.go hb
  refine ⟨_, rfl, G.at_, ?_⟩; intro a' ha; simp only [Act.put, List.setIfInBounds_toArray, List.set_cons_zero, List.set_cons_succ, i64_w, i32_w] at ha; subst ha; clear hb
  refine (pu 49 (some 74) 1125899906842623 ?_ ?_ HT_ rfl rfl (by kernel_rfl) (fun _ _ _ h => h) ?_ ?_ ?_ (pu 50 (some 75) 2251799813685247 ?_ ?_ HT_ rfl rfl (by kernel_rfl) (fun _ _ _ h => h) ?_ ?_ ?_ (pu 51 (some 76) 4503599627370495 ?_ ?_ HT_ rfl rfl (by kernel_rfl) (fun _ _ _ h => h) ?_ ?_ ?_ (tk 52 (some 77) 9007199254740991 ?_ ?_ HT_ HW_ rfl rfl (by kernel_rfl) (fun _ _ _ h => h) G.at_ ?_ ?_ ?_ (tk 55 (some 80) 45035996273704959 ?_ ?_ HT_ HW_ rfl rfl (by kernel_rfl) (fun _ _ _ h => h) G.at_ ?_ ?_ ?_ ?_)))))
  all_goals first | (rintro w' ⟨⟨⟨⟨⟨⟨⟨⟨⟨⟨⟨-, -⟩, -⟩, ⟨s0, s1, s2, s3⟩⟩, -⟩, -⟩, ⟨s4, s5, s6, s7⟩⟩, ⟨s8, s9, s10, s11⟩⟩, -⟩, ⟨s12, s13, s14, s15⟩⟩, -⟩, ⟨s16, s17, s18, s19⟩⟩; go_simp; with_reducible rfl) | (intro w'; go_simp; with_reducible rfl) | (simp only [Act.put, List.setIfInBounds_toArray, List.set_cons_zero, List.set_cons_succ, i64_w, i32_w]; rfl) | rfl | skip
  refine rc 53 78 54043195528445951 HT_ rfl rfl (by kernel_rfl) Tryd.func15 (by kernel_rfl) rfl rfl #[.agg #[.slice A8 lt.length c8, .int .i64 st, .int .i64 et, .string nt]] (by rfl) (by (try simp only [List.map_toArray, List.map_cons, List.map_nil]); first | done | rfl) ?_
  refine (impl_AlarmText.calls k _ _ lt st et nt tx _ G.at_.1.2 HCt.out F9.out (Foreign.laid_below HG.out (G.at_.1.1.1.1.1.1.1.1.1.1.1))).mono ?_
  rintro e w' ⟨rfl, hb⟩
  replace G := G.go hb
  refine ⟨_, rfl, G.at_, ?_⟩; intro a' ha; simp only [Act.put, List.setIfInBounds_toArray, List.set_cons_zero, List.set_cons_succ, i64_w, i32_w] at ha; subst ha; clear hb
  refine (pu 54 (some 79) 72057594037927935 ?_ ?_ HT_ rfl rfl (by kernel_rfl) (fun _ _ _ h => h) ?_ ?_ ?_ ?_)
  all_goals first | (rintro w' ⟨⟨⟨⟨⟨⟨⟨⟨⟨⟨⟨-, -⟩, -⟩, ⟨s0, s1, s2, s3⟩⟩, -⟩, -⟩, ⟨s4, s5, s6, s7⟩⟩, ⟨s8, s9, s10, s11⟩⟩, -⟩, ⟨s12, s13, s14, s15⟩⟩, -⟩, ⟨s16, s17, s18, s19⟩⟩; go_simp; with_reducible rfl) | (intro w'; go_simp; with_reducible rfl) | (simp only [Act.put, List.setIfInBounds_toArray, List.set_cons_zero, List.set_cons_succ, i64_w, i32_w]; rfl) | rfl | skip
  refine rc 56 81 144115188075855871 HT_ rfl rfl (by kernel_rfl) Tryd.func9 (by kernel_rfl) rfl rfl #[.agg #[.slice A8 lt.length c8, .int .i64 st, .int .i64 et, .string nt]] (by rfl) (by (try simp only [List.map_toArray, List.map_cons, List.map_nil]); first | done | rfl) ?_
  refine (impl_AlarmOk.calls k _ _ lt st et nt o3 _ G.at_.1.2 HCt.out F11.out).mono ?_
  rintro e w' ⟨rfl, hb⟩
  replace G := G.go hb
  refine ⟨_, rfl, G.at_, ?_⟩; intro a' ha; simp only [Act.put, List.setIfInBounds_toArray, List.set_cons_zero, List.set_cons_succ, i64_w, i32_w] at ha; subst ha; clear hb
  refine (pu 57 (some 82) 288230376151711743 ?_ ?_ HT_ rfl rfl (by kernel_rfl) (fun _ _ _ h => h) ?_ ?_ ?_ (pu 58 (some 83) 576460752303423487 ?_ ?_ HT_ rfl rfl (by kernel_rfl) (fun _ _ _ h => h) ?_ ?_ ?_ (pu 59 (some 2) 1152921504606846975 ?_ ?_ HT_ rfl rfl (by kernel_rfl) (fun _ _ _ h => h) ?_ ?_ ?_ ?_)))
  all_goals first | (rintro w' ⟨⟨⟨⟨⟨⟨⟨⟨⟨⟨⟨-, -⟩, -⟩, ⟨s0, s1, s2, s3⟩⟩, -⟩, -⟩, ⟨s4, s5, s6, s7⟩⟩, ⟨s8, s9, s10, s11⟩⟩, -⟩, ⟨s12, s13, s14, s15⟩⟩, -⟩, ⟨s16, s17, s18, s19⟩⟩; go_simp; with_reducible rfl) | (intro w'; go_simp; with_reducible rfl) | (simp only [Act.put, List.setIfInBounds_toArray, List.set_cons_zero, List.set_cons_succ, i64_w, i32_w]; rfl) | rfl | skip
  refine done_ (done_of HT_.out (by kernel_rfl)) ?_
  try go_wp2
  go_ret
  exact ⟨rfl, G.at_.1.1.1.1.1.1.1.1.1.1.1⟩
 | true =>
  refine (pu 32 (some 57) 8589934591 ?_ ?_ HT_ rfl rfl (by kernel_rfl) (fun _ _ _ h => h) ?_ ?_ ?_ (pu 33 (some 58) 17179869183 ?_ ?_ HT_ rfl rfl (by kernel_rfl) (fun _ _ _ h => h) ?_ ?_ ?_ ?_))
  all_goals first | (rintro w' ⟨⟨⟨⟨⟨⟨⟨⟨⟨⟨⟨-, -⟩, -⟩, ⟨s0, s1, s2, s3⟩⟩, -⟩, -⟩, ⟨s4, s5, s6, s7⟩⟩, ⟨s8, s9, s10, s11⟩⟩, -⟩, ⟨s12, s13, s14, s15⟩⟩, -⟩, ⟨s16, s17, s18, s19⟩⟩; go_simp; with_reducible rfl) | (intro w'; go_simp; with_reducible rfl) | (simp only [Act.put, List.setIfInBounds_toArray, List.set_cons_zero, List.set_cons_succ, i64_w, i32_w]; rfl) | rfl | skip
  by_cases hx : x > 1099511627776
  · have hxb : decide (1099511627776 < x) = true := decide_eq_true hx
    clear hx
    refine (pu 34 (some 59) 34359738367 ?_ ?_ HT_ rfl rfl (by kernel_rfl) (fun _ _ _ h => h) ?_ ?_ ?_ (pu 35 (some 60) 68719476735 ?_ ?_ HT_ rfl rfl (by kernel_rfl) (fun _ _ _ h => h) ?_ ?_ ?_ (pu 36 (some 61) 137438953471 ?_ ?_ HT_ rfl rfl (by kernel_rfl) (fun _ _ _ h => h) ?_ ?_ ?_ (pu 37 (some 62) 274877906943 ?_ ?_ HT_ rfl rfl (by kernel_rfl) (fun _ _ _ h => h) ?_ ?_ ?_ (po 38 (some 63) 549755813887 ?_ HT_ rfl rfl (by kernel_rfl) (fun _ _ _ h => h) ?_ ?_ (po 39 (some 64) 1099511627775 ?_ HT_ rfl rfl (by kernel_rfl) (fun _ _ _ h => h) ?_ ?_ (po 40 (some 65) 2199023255551 ?_ HT_ rfl rfl (by kernel_rfl) (fun _ _ _ h => h) ?_ ?_ (po 41 (some 66) 4398046511103 ?_ HT_ rfl rfl (by kernel_rfl) (fun _ _ _ h => h) ?_ ?_ ?_))))))))
    all_goals first | (rintro w' ⟨⟨⟨⟨⟨⟨⟨⟨⟨⟨⟨-, -⟩, -⟩, ⟨s0, s1, s2, s3⟩⟩, -⟩, -⟩, ⟨s4, s5, s6, s7⟩⟩, ⟨s8, s9, s10, s11⟩⟩, -⟩, ⟨s12, s13, s14, s15⟩⟩, -⟩, ⟨s16, s17, s18, s19⟩⟩; go_simp; with_reducible rfl) | (intro w'; go_simp; with_reducible rfl) | (simp only [Act.put, List.setIfInBounds_toArray, List.set_cons_zero, List.set_cons_succ, i64_w, i32_w]; rfl) | rfl | skip
    refine (pu 42 (some 67) 8796093022207 ?_ ?_ HT_ rfl rfl (by kernel_rfl) (fun _ _ _ h => h) ?_ ?_ ?_ (pu 43 (some 68) 17592186044415 ?_ ?_ HT_ rfl rfl (by kernel_rfl) (fun _ _ _ h => h) ?_ ?_ ?_ (pu 44 (some 69) 35184372088831 ?_ ?_ HT_ rfl rfl (by kernel_rfl) (fun _ _ _ h => h) ?_ ?_ ?_ (tk 45 (some 70) 70368744177663 ?_ ?_ HT_ HW_ rfl rfl (by kernel_rfl) (fun _ _ _ h => h) G.at_ ?_ ?_ ?_ (tk 47 (some 72) 211106232532991 ?_ ?_ HT_ HW_ rfl rfl (by kernel_rfl) (fun _ _ _ h => h) G.at_ ?_ ?_ ?_ ?_)))))
    all_goals first | (rintro w' ⟨⟨⟨⟨⟨⟨⟨⟨⟨⟨⟨-, -⟩, -⟩, ⟨s0, s1, s2, s3⟩⟩, -⟩, -⟩, ⟨s4, s5, s6, s7⟩⟩, ⟨s8, s9, s10, s11⟩⟩, -⟩, ⟨s12, s13, s14, s15⟩⟩, -⟩, ⟨s16, s17, s18, s19⟩⟩; go_simp; with_reducible rfl) | (intro w'; go_simp; with_reducible rfl) | (simp only [Act.put, List.setIfInBounds_toArray, List.set_cons_zero, List.set_cons_succ, i64_w, i32_w]; rfl) | rfl | skip
    refine rc 46 71 281474976710655 HT_ rfl rfl (by kernel_rfl) Tryd.func15 (by kernel_rfl) rfl rfl #[.agg #[.slice A8 lt.length c8, .int .i64 st, .int .i64 et, .string nt]] (by rfl) (by (try simp only [List.map_toArray, List.map_cons, List.map_nil]); first | done | rfl) ?_
    refine (impl_AlarmText.calls k _ _ lt st et nt tx _ G.at_.1.2 HCt.out F9.out (Foreign.laid_below HG.out (G.at_.1.1.1.1.1.1.1.1.1.1.1))).mono ?_
    rintro e w' ⟨rfl, hb⟩
    replace G := G.go hb
    refine ⟨_, rfl, G.at_, ?_⟩; intro a' ha; simp only [Act.put, List.setIfInBounds_toArray, List.set_cons_zero, List.set_cons_succ, i64_w, i32_w] at ha; subst ha; clear hb
    refine rc 48 73 562949953421311 HT_ rfl rfl (by kernel_rfl) Tryd.func16 (by kernel_rfl) rfl rfl #[.agg #[.slice A8 lt.length c8, .int .i64 st, .int .i64 et, .string nt]] (by rfl) (by (try simp only [List.map_toArray, List.map_cons, List.map_nil]); first | done | rfl) ?_
    refine (spec_AlarmText.calls k _ _ lt st et nt tx' _ G.at_.1.2 HCt.out F10.out).mono ?_
    rintro e w' ⟨rfl, hb⟩
    replace G := G.go hb
    refine ⟨_, rfl, G.at_, ?_⟩; intro a' ha; simp only [Act.put, List.setIfInBounds_toArray, List.set_cons_zero, List.set_cons_succ, i64_w, i32_w] at ha; subst ha; clear hb
    refine (pu 49 (some 74) 1125899906842623 ?_ ?_ HT_ rfl rfl (by kernel_rfl) (fun _ _ _ h => h) ?_ ?_ ?_ (pu 50 (some 75) 2251799813685247 ?_ ?_ HT_ rfl rfl (by kernel_rfl) (fun _ _ _ h => h) ?_ ?_ ?_ (pu 51 (some 76) 4503599627370495 ?_ ?_ HT_ rfl rfl (by kernel_rfl) (fun _ _ _ h => h) ?_ ?_ ?_ (tk 52 (some 77) 9007199254740991 ?_ ?_ HT_ HW_ rfl rfl (by kernel_rfl) (fun _ _ _ h => h) G.at_ ?_ ?_ ?_ (tk 55 (some 80) 45035996273704959 ?_ ?_ HT_ HW_ rfl rfl (by kernel_rfl) (fun _ _ _ h => h) G.at_ ?_ ?_ ?_ ?_)))))
    all_goals first | (rintro w' ⟨⟨⟨⟨⟨⟨⟨⟨⟨⟨⟨-, -⟩, -⟩, ⟨s0, s1, s2, s3⟩⟩, -⟩, -⟩, ⟨s4, s5, s6, s7⟩⟩, ⟨s8, s9, s10, s11⟩⟩, -⟩, ⟨s12, s13, s14, s15⟩⟩, -⟩, ⟨s16, s17, s18, s19⟩⟩; go_simp; with_reducible rfl) | (intro w'; go_simp; with_reducible rfl) | (simp only [Act.put, List.setIfInBounds_toArray, List.set_cons_zero, List.set_cons_succ, i64_w, i32_w]; rfl) | rfl | skip
    refine rc 53 78 54043195528445951 HT_ rfl rfl (by kernel_rfl) Tryd.func15 (by kernel_rfl) rfl rfl #[.agg #[.slice A8 lt.length c8, .int .i64 st, .int .i64 et, .string nt]] (by rfl) (by (try simp only [List.map_toArray, List.map_cons, List.map_nil]); first | done | rfl) ?_
    refine (impl_AlarmText.calls k _ _ lt st et nt tx _ G.at_.1.2 HCt.out F9.out (Foreign.laid_below HG.out (G.at_.1.1.1.1.1.1.1.1.1.1.1))).mono ?_
    rintro e w' ⟨rfl, hb⟩
    replace G := G.go hb
    refine ⟨_, rfl, G.at_, ?_⟩; intro a' ha; simp only [Act.put, List.setIfInBounds_toArray, List.set_cons_zero, List.set_cons_succ, i64_w, i32_w] at ha; subst ha; clear hb
    refine (pu 54 (some 79) 72057594037927935 ?_ ?_ HT_ rfl rfl (by kernel_rfl) (fun _ _ _ h => h) ?_ ?_ ?_ ?_)
    all_goals first | (rintro w' ⟨⟨⟨⟨⟨⟨⟨⟨⟨⟨⟨-, -⟩, -⟩, ⟨s0, s1, s2, s3⟩⟩, -⟩, -⟩, ⟨s4, s5, s6, s7⟩⟩, ⟨s8, s9, s10, s11⟩⟩, -⟩, ⟨s12, s13, s14, s15⟩⟩, -⟩, ⟨s16, s17, s18, s19⟩⟩; go_simp; with_reducible rfl) | (intro w'; go_simp; with_reducible rfl) | (simp only [Act.put, List.setIfInBounds_toArray, List.set_cons_zero, List.set_cons_succ, i64_w, i32_w]; rfl) | rfl | skip
    refine rc 56 81 144115188075855871 HT_ rfl rfl (by kernel_rfl) Tryd.func9 (by kernel_rfl) rfl rfl #[.agg #[.slice A8 lt.length c8, .int .i64 st, .int .i64 et, .string nt]] (by rfl) (by (try simp only [List.map_toArray, List.map_cons, List.map_nil]); first | done | rfl) ?_
    refine (impl_AlarmOk.calls k _ _ lt st et nt o3 _ G.at_.1.2 HCt.out F11.out).mono ?_
    rintro e w' ⟨rfl, hb⟩
    replace G := G.go hb
    refine ⟨_, rfl, G.at_, ?_⟩; intro a' ha; simp only [Act.put, List.setIfInBounds_toArray, List.set_cons_zero, List.set_cons_succ, i64_w, i32_w] at ha; subst ha; clear hb
    refine (pu 57 (some 82) 288230376151711743 ?_ ?_ HT_ rfl rfl (by kernel_rfl) (fun _ _ _ h => h) ?_ ?_ ?_ (pu 58 (some 83) 576460752303423487 ?_ ?_ HT_ rfl rfl (by kernel_rfl) (fun _ _ _ h => h) ?_ ?_ ?_ (pu 59 (some 2) 1152921504606846975 ?_ ?_ HT_ rfl rfl (by kernel_rfl) (fun _ _ _ h => h) ?_ ?_ ?_ ?_)))
    all_goals first | (rintro w' ⟨⟨⟨⟨⟨⟨⟨⟨⟨⟨⟨-, -⟩, -⟩, ⟨s0, s1, s2, s3⟩⟩, -⟩, -⟩, ⟨s4, s5, s6, s7⟩⟩, ⟨s8, s9, s10, s11⟩⟩, -⟩, ⟨s12, s13, s14, s15⟩⟩, -⟩, ⟨s16, s17, s18, s19⟩⟩; go_simp; with_reducible rfl) | (intro w'; go_simp; with_reducible rfl) | (simp only [Act.put, List.setIfInBounds_toArray, List.set_cons_zero, List.set_cons_succ, i64_w, i32_w]; rfl) | rfl | skip
    refine done_ (done_of HT_.out (by kernel_rfl)) ?_
    try go_wp2
    go_ret
    exact ⟨rfl, G.at_.1.1.1.1.1.1.1.1.1.1.1⟩
  · have hxb : decide (1099511627776 < x) = false := decide_eq_false hx
    have F8' := aM (F8.out rfl (by omega))
    clear hx
    refine (pu 34 (some 59) 34359738367 ?_ ?_ HT_ rfl rfl (by kernel_rfl) (fun _ _ _ h => h) ?_ ?_ ?_ (pu 35 (some 60) 68719476735 ?_ ?_ HT_ rfl rfl (by kernel_rfl) (fun _ _ _ h => h) ?_ ?_ ?_ (pu 36 (some 61) 137438953471 ?_ ?_ HT_ rfl rfl (by kernel_rfl) (fun _ _ _ h => h) ?_ ?_ ?_ (pu 37 (some 62) 274877906943 ?_ ?_ HT_ rfl rfl (by kernel_rfl) (fun _ _ _ h => h) ?_ ?_ ?_ (tk 38 (some 63) 549755813887 ?_ ?_ HT_ HW_ rfl rfl (by kernel_rfl) (fun _ _ _ h => h) G.at_ ?_ ?_ ?_ (pu 39 (some 64) 1099511627775 ?_ ?_ HT_ rfl rfl (by kernel_rfl) (fun _ _ _ h => h) ?_ ?_ ?_ (pu 40 (some 65) 2199023255551 ?_ ?_ HT_ rfl rfl (by kernel_rfl) (fun _ _ _ h => h) ?_ ?_ ?_ ?_)))))))
    all_goals first | (rintro w' ⟨⟨⟨⟨⟨⟨⟨⟨⟨⟨⟨-, -⟩, -⟩, ⟨s0, s1, s2, s3⟩⟩, -⟩, -⟩, ⟨s4, s5, s6, s7⟩⟩, ⟨s8, s9, s10, s11⟩⟩, -⟩, ⟨s12, s13, s14, s15⟩⟩, -⟩, ⟨s16, s17, s18, s19⟩⟩; go_simp; with_reducible rfl) | (intro w'; go_simp; with_reducible rfl) | (simp only [Act.put, List.setIfInBounds_toArray, List.set_cons_zero, List.set_cons_succ, i64_w, i32_w]; rfl) | rfl | skip
    refine rc 41 66 4398046511103 HT_ rfl rfl (by kernel_rfl) Tryd.func13 (by kernel_rfl) rfl rfl #[.agg #[.slice A6 ld.length c6, .int .i64 sd, .int .i64 ed, .string nd], .int .i64 (wrap64 (x + 1))] (by rfl) (by (try simp only [List.map_toArray, List.map_cons, List.map_nil]); first | done | rfl) ?_
    refine (impl_Over.calls _ _ ld sd ed nd (wrap64 (x + 1)) true _ G.at_.1.1.1.2 HCd.out F8'.out).mono ?_
    rintro e w' ⟨rfl, hb⟩
    replace G := G.go hb
    refine ⟨_, rfl, G.at_, ?_⟩; intro a' ha; simp only [Act.put, List.setIfInBounds_toArray, List.set_cons_zero, List.set_cons_succ, i64_w, i32_w] at ha; subst ha; clear hb
    refine (pu 42 (some 67) 8796093022207 ?_ ?_ HT_ rfl rfl (by kernel_rfl) (fun _ _ _ h => h) ?_ ?_ ?_ (pu 43 (some 68) 17592186044415 ?_ ?_ HT_ rfl rfl (by kernel_rfl) (fun _ _ _ h => h) ?_ ?_ ?_ (pu 44 (some 69) 35184372088831 ?_ ?_ HT_ rfl rfl (by kernel_rfl) (fun _ _ _ h => h) ?_ ?_ ?_ (tk 45 (some 70) 70368744177663 ?_ ?_ HT_ HW_ rfl rfl (by kernel_rfl) (fun _ _ _ h => h) G.at_ ?_ ?_ ?_ (tk 47 (some 72) 211106232532991 ?_ ?_ HT_ HW_ rfl rfl (by kernel_rfl) (fun _ _ _ h => h) G.at_ ?_ ?_ ?_ ?_)))))
    all_goals first | (rintro w' ⟨⟨⟨⟨⟨⟨⟨⟨⟨⟨⟨-, -⟩, -⟩, ⟨s0, s1, s2, s3⟩⟩, -⟩, -⟩, ⟨s4, s5, s6, s7⟩⟩, ⟨s8, s9, s10, s11⟩⟩, -⟩, ⟨s12, s13, s14, s15⟩⟩, -⟩, ⟨s16, s17, s18, s19⟩⟩; go_simp; with_reducible rfl) | (intro w'; go_simp; with_reducible rfl) | (simp only [Act.put, List.setIfInBounds_toArray, List.set_cons_zero, List.set_cons_succ, i64_w, i32_w]; rfl) | rfl | skip
    refine rc 46 71 281474976710655 HT_ rfl rfl (by kernel_rfl) Tryd.func15 (by kernel_rfl) rfl rfl #[.agg #[.slice A8 lt.length c8, .int .i64 st, .int .i64 et, .string nt]] (by rfl) (by (try simp only [List.map_toArray, List.map_cons, List.map_nil]); first | done | rfl) ?_
    refine (impl_AlarmText.calls k _ _ lt st et nt tx _ G.at_.1.2 HCt.out F9.out (Foreign.laid_below HG.out (G.at_.1.1.1.1.1.1.1.1.1.1.1))).mono ?_
    rintro e w' ⟨rfl, hb⟩
    replace G := G.go hb
    refine ⟨_, rfl, G.at_, ?_⟩; intro a' ha; simp only [Act.put, List.setIfInBounds_toArray, List.set_cons_zero, List.set_cons_succ, i64_w, i32_w] at ha; subst ha; clear hb
    refine rc 48 73 562949953421311 HT_ rfl rfl (by kernel_rfl) Tryd.func16 (by kernel_rfl) rfl rfl #[.agg #[.slice A8 lt.length c8, .int .i64 st, .int .i64 et, .string nt]] (by rfl) (by (try simp only [List.map_toArray, List.map_cons, List.map_nil]); first | done | rfl) ?_
    refine (spec_AlarmText.calls k _ _ lt st et nt tx' _ G.at_.1.2 HCt.out F10.out).mono ?_
    rintro e w' ⟨rfl, hb⟩
    replace G := G.go hb
    refine ⟨_, rfl, G.at_, ?_⟩; intro a' ha; simp only [Act.put, List.setIfInBounds_toArray, List.set_cons_zero, List.set_cons_succ, i64_w, i32_w] at ha; subst ha; clear hb
    refine (pu 49 (some 74) 1125899906842623 ?_ ?_ HT_ rfl rfl (by kernel_rfl) (fun _ _ _ h => h) ?_ ?_ ?_ (pu 50 (some 75) 2251799813685247 ?_ ?_ HT_ rfl rfl (by kernel_rfl) (fun _ _ _ h => h) ?_ ?_ ?_ (pu 51 (some 76) 4503599627370495 ?_ ?_ HT_ rfl rfl (by kernel_rfl) (fun _ _ _ h => h) ?_ ?_ ?_ (tk 52 (some 77) 9007199254740991 ?_ ?_ HT_ HW_ rfl rfl (by kernel_rfl) (fun _ _ _ h => h) G.at_ ?_ ?_ ?_ (tk 55 (some 80) 45035996273704959 ?_ ?_ HT_ HW_ rfl rfl (by kernel_rfl) (fun _ _ _ h => h) G.at_ ?_ ?_ ?_ ?_)))))
    all_goals first | (rintro w' ⟨⟨⟨⟨⟨⟨⟨⟨⟨⟨⟨-, -⟩, -⟩, ⟨s0, s1, s2, s3⟩⟩, -⟩, -⟩, ⟨s4, s5, s6, s7⟩⟩, ⟨s8, s9, s10, s11⟩⟩, -⟩, ⟨s12, s13, s14, s15⟩⟩, -⟩, ⟨s16, s17, s18, s19⟩⟩; go_simp; with_reducible rfl) | (intro w'; go_simp; with_reducible rfl) | (simp only [Act.put, List.setIfInBounds_toArray, List.set_cons_zero, List.set_cons_succ, i64_w, i32_w]; rfl) | rfl | skip
    refine rc 53 78 54043195528445951 HT_ rfl rfl (by kernel_rfl) Tryd.func15 (by kernel_rfl) rfl rfl #[.agg #[.slice A8 lt.length c8, .int .i64 st, .int .i64 et, .string nt]] (by rfl) (by (try simp only [List.map_toArray, List.map_cons, List.map_nil]); first | done | rfl) ?_
    refine (impl_AlarmText.calls k _ _ lt st et nt tx _ G.at_.1.2 HCt.out F9.out (Foreign.laid_below HG.out (G.at_.1.1.1.1.1.1.1.1.1.1.1))).mono ?_
    rintro e w' ⟨rfl, hb⟩
    replace G := G.go hb
    refine ⟨_, rfl, G.at_, ?_⟩; intro a' ha; simp only [Act.put, List.setIfInBounds_toArray, List.set_cons_zero, List.set_cons_succ, i64_w, i32_w] at ha; subst ha; clear hb
    refine (pu 54 (some 79) 72057594037927935 ?_ ?_ HT_ rfl rfl (by kernel_rfl) (fun _ _ _ h => h) ?_ ?_ ?_ ?_)
    all_goals first | (rintro w' ⟨⟨⟨⟨⟨⟨⟨⟨⟨⟨⟨-, -⟩, -⟩, ⟨s0, s1, s2, s3⟩⟩, -⟩, -⟩, ⟨s4, s5, s6, s7⟩⟩, ⟨s8, s9, s10, s11⟩⟩, -⟩, ⟨s12, s13, s14, s15⟩⟩, -⟩, ⟨s16, s17, s18, s19⟩⟩; go_simp; with_reducible rfl) | (intro w'; go_simp; with_reducible rfl) | (simp only [Act.put, List.setIfInBounds_toArray, List.set_cons_zero, List.set_cons_succ, i64_w, i32_w]; rfl) | rfl | skip
    refine rc 56 81 144115188075855871 HT_ rfl rfl (by kernel_rfl) Tryd.func9 (by kernel_rfl) rfl rfl #[.agg #[.slice A8 lt.length c8, .int .i64 st, .int .i64 et, .string nt]] (by rfl) (by (try simp only [List.map_toArray, List.map_cons, List.map_nil]); first | done | rfl) ?_
    refine (impl_AlarmOk.calls k _ _ lt st et nt o3 _ G.at_.1.2 HCt.out F11.out).mono ?_
    rintro e w' ⟨rfl, hb⟩
    replace G := G.go hb
    refine ⟨_, rfl, G.at_, ?_⟩; intro a' ha; simp only [Act.put, List.setIfInBounds_toArray, List.set_cons_zero, List.set_cons_succ, i64_w, i32_w] at ha; subst ha; clear hb
    refine (pu 57 (some 82) 288230376151711743 ?_ ?_ HT_ rfl rfl (by kernel_rfl) (fun _ _ _ h => h) ?_ ?_ ?_ (pu 58 (some 83) 576460752303423487 ?_ ?_ HT_ rfl rfl (by kernel_rfl) (fun _ _ _ h => h) ?_ ?_ ?_ (pu 59 (some 2) 1152921504606846975 ?_ ?_ HT_ rfl rfl (by kernel_rfl) (fun _ _ _ h => h) ?_ ?_ ?_ ?_)))
    all_goals first | (rintro w' ⟨⟨⟨⟨⟨⟨⟨⟨⟨⟨⟨-, -⟩, -⟩, ⟨s0, s1, s2, s3⟩⟩, -⟩, -⟩, ⟨s4, s5, s6, s7⟩⟩, ⟨s8, s9, s10, s11⟩⟩, -⟩, ⟨s12, s13, s14, s15⟩⟩, -⟩, ⟨s16, s17, s18, s19⟩⟩; go_simp; with_reducible rfl) | (intro w'; go_simp; with_reducible rfl) | (simp only [Act.put, List.setIfInBounds_toArray, List.set_cons_zero, List.set_cons_succ, i64_w, i32_w]; rfl) | rfl | skip
    refine done_ (done_of HT_.out (by kernel_rfl)) ?_
    try go_wp2
    go_ret
    exact ⟨rfl, G.at_.1.1.1.1.1.1.1.1.1.1.1⟩
theorem ite_some {c : Prop} [Decidable c] {x : Option Bool} (h : (if c then x else some false) = some true) : c ∧ x = some true := by
  by_cases hc : c
  · rw [if_pos hc] at h; exact ⟨hc, h⟩
  · rw [if_neg hc] at h; cases h
set_option maxHeartbeats 8000000 in
set_option maxRecDepth 100000 in
theorem laws_FnAlarms.calls (k : Nat) (A0 : Option Addr) (c0 : Nat) (l0 : List Int) (r : Bool) (w : World) (hr0 : Kd.C (Kd.int .u8) w A0 l0.length l0) (hc0 : l0.length ≤ c0) (hr_ : Aside0 (r = true)) (h : laws_FnAlarms.f k l0 = some r) (hG : Foreign.Laid w) :
  Calls Tryd.prog 3 #[.slice A0 l0.length c0] w fun e w' => e = .returned (.bool r) ∧ Below w.heap.size w w' := by
 obtain rfl := hr_.out
 unfold laws_FnAlarms.f at h
 obtain ⟨t, E0, h⟩ := Option.bind_eq_some_iff.mp h
 cases t with
 | true =>
  clear h
  have HC0 := aM hc0
  have E0' := aM E0
  have G := (Gs.below w).add (Gs.row hr0)
  clear hc0 E0 hG hr0 hr_
  go_enter Tryd.func3, Tryd.ntmps3
  go_wp2_with (first | ((with_reducible refine gate_callee (f := 4) rfl ?_); refine goesL_ (some 10) rfl rfl Tryd.func4 (by kernel_rfl) rfl #[.slice A0 l0.length c0] rfl (by (try simp only [List.map_toArray, List.map_cons, List.map_nil]); first | done | rfl) ?_; refine (laws_big.calls  _ _ l0 true _ G.at_.2 HC0.out E0'.out).mono ?_; rintro e w1 ⟨rfl, hd⟩; refine ⟨_, rfl, ?_⟩; have G1 := G.go hd.below; clear G hd; have G := G1; clear G1))
  go_ret
  exact ⟨rfl, G.at_.1⟩
 | false =>
  rw [if_neg (by decide)] at h
  obtain ⟨⟨la, sa, ea, na⟩, E1, h⟩ := Option.bind_eq_some_iff.mp h
  obtain ⟨⟨lb, sb, eb, nb, lc, sc, ec, nc⟩, E2, h⟩ := Option.bind_eq_some_iff.mp h
  obtain ⟨⟨ld, sd, ed, nd, x⟩, E3, h⟩ := Option.bind_eq_some_iff.mp h
  obtain ⟨⟨lt, st, et, nt⟩, E4, h⟩ := Option.bind_eq_some_iff.mp h
  dsimp only at h
  obtain ⟨o1, F1, h⟩ := Option.bind_eq_some_iff.mp h
  obtain ⟨o1', F2, h⟩ := Option.bind_eq_some_iff.mp h
  obtain ⟨h1, h⟩ := ite_some h
  obtain ⟨o2, F3, h⟩ := Option.bind_eq_some_iff.mp h
  obtain ⟨o2', F4, h⟩ := Option.bind_eq_some_iff.mp h
  obtain ⟨h2, h⟩ := ite_some h
  obtain ⟨o4, F5, h⟩ := Option.bind_eq_some_iff.mp h
  have h_ := ite_some h; clear h; obtain ⟨rfl, h⟩ := h_
  obtain ⟨ov, F6, h⟩ := Option.bind_eq_some_iff.mp h
  obtain ⟨ov', F7, h⟩ := Option.bind_eq_some_iff.mp h
  obtain ⟨h3, h⟩ := ite_some h
  obtain ⟨ov2, F6', h⟩ := Option.bind_eq_some_iff.mp h
  obtain rfl : ov = ov2 := Option.some.inj (F6.symm.trans F6')
  have hh : (ov = true → ¬ x > 1099511627776 → impl_Over.f ld sd ed nd (wrap64 (x + 1)) = some true) ∧ ((impl_AlarmText.f k lt st et nt).bind fun t5 => ((spec_AlarmText.f k lt st et nt).bind fun t6 => (if t5.toList = t6.toList then ((impl_AlarmText.f k lt st et nt).bind fun t7 => ((impl_AlarmOk.f k lt st et nt).bind fun t8 => (some ((t7.toList != ([] : List UInt8)) == t8)))) else (some false)))) = some true := by
   cases ov with
   | true =>
    rw [if_pos rfl] at h
    by_cases hx : x > 1099511627776
    · rw [if_pos hx] at h; exact ⟨fun _ hn => absurd hx hn, h⟩
    · rw [if_neg hx] at h
      obtain ⟨o, F, h⟩ := Option.bind_eq_some_iff.mp h
      have h_ := ite_some h; clear h; obtain ⟨rfl, h⟩ := h_
      exact ⟨fun _ _ => F, h⟩
   | false => rw [if_neg (by decide)] at h; exact ⟨fun h => (by cases h), h⟩
  clear h F6'
  obtain ⟨F8, h⟩ := hh
  obtain ⟨tx, F9, h⟩ := Option.bind_eq_some_iff.mp h
  obtain ⟨tx', F10, h⟩ := Option.bind_eq_some_iff.mp h
  obtain ⟨h4, h⟩ := ite_some h
  obtain ⟨tx2, F9', h⟩ := Option.bind_eq_some_iff.mp h
  obtain rfl : tx = tx2 := Option.some.inj (F9.symm.trans F9')
  obtain ⟨o3, F11, h⟩ := Option.bind_eq_some_iff.mp h
  exact laws_FnAlarms.way k A0 c0 l0 w hr0 hc0 hG la sa ea na lb sb eb nb lc sc ec nc ld sd ed nd lt st et nt x o1 o1' o2 o2' ov ov' o3 tx tx' ⟨E0⟩ ⟨E1⟩ ⟨E2⟩ ⟨E3⟩ ⟨E4⟩ ⟨F1⟩ ⟨F2⟩ ⟨F3⟩ ⟨F4⟩ ⟨F5⟩ ⟨F6⟩ ⟨F7⟩ ⟨F8⟩ ⟨F9⟩ ⟨F10⟩ ⟨F11⟩ h1 h2 h3 (beq_iff_eq.mpr h4) (Option.some.inj h)

def laws_FnAlarms.Pure : Prop := ∀ (l0 : List Int), l0.length ≤ maxLen → l0.length * 1 ≤ 140737488351232 → (∀ x ∈ l0, (Lit.int .u8 x).wf = true) → ∃ k, laws_FnAlarms.f k l0 = some true
theorem laws_FnAlarms.walk (P : laws_FnAlarms.Pure) (a0 : Option Addr) (len0 cap0 : Nat) (z0 : List Int) (w : World) (w0 : (a0 = none ∧ len0 = 0 ∧ cap0 = 0 ∧ z0 = []) ∨ ∃ x, a0 = some x ∧ len0 ≤ cap0 ∧ cap0 ≤ maxLen ∧ z0.length = cap0 ∧ (∀ i, i < z0.length → w.cell? (x.add i) = some (.int .u8 (z0.getD i 0))) ∧ ∀ n ∈ z0, (Lit.int .u8 n).wf = true) (y0 : len0 * 1 ≤ 140737488351232) (hG : Foreign.Laid w) :
  Calls Tryd.prog 3 #[.slice a0 len0 cap0] w fun e w' => e = .returned (.bool true) ∧ Below w.heap.size w w' := by
 obtain ⟨l0, rfl, hr0, hm0, hw0, hc0⟩ := ReadsInt.ofRowC w0
 obtain ⟨k, h⟩ := P l0 hm0 y0 hw0
 refine (laws_FnAlarms.calls k _ _ l0 true w (Kd.C_of_reads (d := (0 : Int)) (h1 := fun _ => rfl) hr0) hc0 ⟨rfl⟩ h hG).mono ?_
 rintro e w' ⟨rfl, hd⟩
 exact ⟨rfl, hd⟩

end Go.Proofs.YtgindocfjoalhabDoor.PFnAlarms
