/- Further contracts that FnChains leans on; no conditions. -/
import Derived.Test.YtdhignbneeapiaaPFnChainsx0
import Derived.Test.YtdhignbneeapiaaPFnChainsx1
import Derived.Test.YtdhignbneeapiaaPFnChainsx2
import Derived.Test.YtdhignbneeapiaaPFnChainsx3
import Derived.Test.YtdhignbneeapiaaPFnChainsx4
import Derived.Test.YtdhignbneeapiaaPFnChainsx5
import Derived.Test.YtdhignbneeapiaaPFnChainsx6
import Derived.Test.YtdhignbneeapiaaPFnChainsx7
import Derived.Test.YtdhignbneeapiaaPFnChainsx8
import Derived.Test.YtdhignbneeapiaaPFnChainsx9
import Derived.Test.YtdhignbneeapiaaPFnChainsx10
import Derived.Test.YtdhignbneeapiaaPFnChainsx11
import Derived.Test.YtdhignbneeapiaaPFnChainsx12
import Derived.Test.YtdhignbneeapiaaPFnChainsx13
import Derived.Test.YtdhignbneeapiaaPFnChainsx14
import Derived.Test.YtdhignbneeapiaaPFnChainsx15
import Derived.Test.YtdhignbneeapiaaPFnChainsx16
import Derived.Test.YtdhignbneeapiaaPFnChainsx17
import Derived.Test.YtdhignbneeapiaaPFnChainsx18
import Derived.Test.YtdhignbneeapiaaPFnChainsx19
import Derived.Test.YtdhignbneeapiaaPFnChainsx20
namespace Go.Proofs.Ytdhignbneeapiaa.PFnChains
open Go.Proofs.Ytdhignbneeapiaa
open Go.RowKit Go.Proofs.YtdhignbneeapiaaW.PrintWords Go.Proofs.YtdhignbneeapiaaW.PrintLast Go.Proofs.YtdhignbneeapiaaW.PrintMore
attribute [local go_sem] max2_int min2_int max_two min_two max_three min_three max_four min_four   -- for this text's walks alone
set_option linter.unusedVariables false
set_option linter.unusedSimpArgs false
set_option maxHeartbeats 8000000
set_option maxRecDepth 100000

/-- What is told of the world stays told where only new blocks come up. -/
structure Gs (Φ : World → Prop) (W : World) : Prop where
  at_ : Φ W
  st : ∀ {V V' : World}, Below V.heap.size V V' → Φ V → Φ V'
theorem Gs.go {Φ : World → Prop} {W W' : World} (h : Gs Φ W) (hb : Below W.heap.size W W') : Gs Φ W' := ⟨h.st hb h.at_, h.st⟩
theorem Gs.add {Φ Ψ : World → Prop} {W : World} (h : Gs Φ W) (k : Gs Ψ W) : Gs (fun w => Φ w ∧ Ψ w) W := ⟨⟨h.at_, k.at_⟩, fun hb hp => ⟨h.st hb hp.1, k.st hb hp.2⟩⟩
theorem Gs.left {Φ Ψ : World → Prop} {W : World} (h : Gs Φ W) (hd : ∀ {V V' : World}, Below V.heap.size V V' → Ψ V → Ψ V') (hk : ∀ w, Φ w → Ψ w) : Gs Ψ W := ⟨hk W h.at_, hd⟩
theorem Gs.hide {Φ : World → Prop} {W : World} {C : Prop} (G : Gs Φ W) (h : ∀ Ψ : World → Prop, Gs Ψ W → (∀ V, Ψ V → Φ V) → (∀ V, Gs Ψ V → Gs Φ V) → C) : C := h Φ G (fun _ h => h) (fun _ h => h)
theorem Gs.below (w : World) : Gs (fun W => Below w.heap.size w W) w := ⟨Below.refl _ _, fun hb h => below_step h hb⟩
theorem Gs.cell {a : Addr} {v : Value} {W : World} (h : W.cell? a = some v) : Gs (fun W => W.cell? a = some v) W := ⟨h, fun hb h => pw_cell_below hb h⟩
theorem Gs.row {α : Type} {d : Kd α} {A : Option Addr} {n : Nat} {xs : List α} {W : World} (h : d.C W A n xs) : Gs (fun W => d.C W A n xs) W := ⟨h, fun hb h => Kd.C_below h hb⟩
def box4 (g : Nat) (b0 b1 b2 b3 : Value) (w : World) : Prop := w.cell? ⟨g, 0, none⟩ = some b0 ∧ w.cell? ⟨g, 1, none⟩ = some b1 ∧ w.cell? ⟨g, 2, none⟩ = some b2 ∧ w.cell? ⟨g, 3, none⟩ = some b3
theorem Gs.ofBox4 {g : Nat} {t : TypeId} {b0 b1 b2 b3 : Value} {W : World} (h : W.heap[g]? = some (.cells #[b0, b1, b2, b3] t (0, 0))) : Gs (box4 g b0 b1 b2 b3) W :=
  ⟨⟨(blk_cell h 0).trans rfl, (blk_cell h 1).trans rfl, (blk_cell h 2).trans rfl, (blk_cell h 3).trans rfl⟩, fun hb h => ⟨pw_cell_below hb h.1, pw_cell_below hb h.2.1, pw_cell_below hb h.2.2.1, pw_cell_below hb h.2.2.2⟩⟩
theorem set4_blk {W : World} {g : Nat} {t : TypeId} {c0 c1 c2 c3 b0 b1 b2 b3 : Value} (h : W.heap[g]? = some (.cells #[c0, c1, c2, c3] t (0, 0))) :
    ((((W.setCell ⟨g, 0, none⟩ b0).setCell ⟨g, 1, none⟩ b1).setCell ⟨g, 2, none⟩ b2).setCell ⟨g, 3, none⟩ b3).heap[g]? = some (.cells #[b0, b1, b2, b3] t (0, 0)) :=
  blk_put (blk_put (blk_put (blk_put h 0 b0 rfl) 1 b1 rfl) 2 b2 rfl) 3 b3 rfl
theorem set4_far {W : World} {g k : Nat} {o : Obj} {b0 b1 b2 b3 : Value} (h : W.heap[k]? = some o) (hk : k ≠ g) :
    ((((W.setCell ⟨g, 0, none⟩ b0).setCell ⟨g, 1, none⟩ b1).setCell ⟨g, 2, none⟩ b2).setCell ⟨g, 3, none⟩ b3).heap[k]? = some o :=
  (Below.heap_setCell _ ⟨g, 3, none⟩ b3 k hk).trans ((Below.heap_setCell _ ⟨g, 2, none⟩ b2 k hk).trans ((Below.heap_setCell _ ⟨g, 1, none⟩ b1 k hk).trans ((Below.heap_setCell _ ⟨g, 0, none⟩ b0 k hk).trans h)))
theorem set4_below {V W : World} {g : Nat} {b0 b1 b2 b3 : Value} (h : Below V.heap.size V W) (hg : V.heap.size ≤ g) :
    Below V.heap.size V ((((W.setCell ⟨g, 0, none⟩ b0).setCell ⟨g, 1, none⟩ b1).setCell ⟨g, 2, none⟩ b2).setCell ⟨g, 3, none⟩ b3) :=
  below_set (below_set (below_set (below_set h hg) hg) hg) hg
section
open Go.Proofs.YtdhignbneeapiaaW.PrintLast
variable {P : Program} {ops : Array Oper} {Q : Exit → Act → World → Prop} {Φ : World → Prop} {n m fuel : Nat} {a : Act} {w : World} {T : Bool × List (List Nat × List Nat)} {B : List Nat}
theorem bz_nil (n : Nat) : Array.replicate n false = bz n 0 := by
  unfold bz
  rw [List.map_eq_replicate_iff.2 (fun x _ => Nat.zero_testBit x)]
  simp
/-- A region that draws its order, at its head. -/
theorem reg {id : Nat} (G : Gs Φ w) (hm : P.follows .mixedOrders = true) (hn : ops.size = n) (hT : rtab .any ops = T) (hB : waitsOk T.2 B = true)
    (h : ∀ W, Below w.heap.size w W → Gs Φ W → Aside0 (rtab .any ops = T) → Aside0 (waitsOk T.2 B = true) → wpAnyLast P .any ops Q Φ [] n (bz n 0) a W) : (Code.region id ops true).wp P Q a w :=
  start_ (bz n 0) hm hn (bz_nil n) (G.go (below_drew (Below.refl _ _))).at_ (fun _ => h _ (below_drew (Below.refl _ _)) (G.go (below_drew (Below.refl _ _))) ⟨hT⟩ ⟨hB⟩)
/-- A call in such a region. -/
theorem rc {oi : Oper} (i : Nat) (t : Tmp) (m' : Nat) (HT : Aside0 (rtab .any ops = T)) (hi : ops[i]? = some oi) (hN : oi.dst = some t) (hc : (readyT T.2 (bz n m).toList == [i] && (bz n m).toList.set i true == (bz n m').toList) = true)
    {f : FuncId} {fn : Func} {ars : Array Operand} {ts : Array TypeId} (hf : P.funcs[f]? = some fn) (hname : (fn.name == "runtime.NumGoroutine") = false) (hb : fn.body.isSome = true) (hop : oi.op = .call { callee := .value (.func f), args := ars, argTypes := ts }) (args : Array Value)
    (hw : Region.wanted oi (yielded ops a.tmps) = true) (hargs : ars.map a.eval = args)
    (h : Calls P f args w fun e w' => ∃ v, e = .returned v ∧ Φ w' ∧ ∀ a', a.put (some t) v = a' → wpAnyLast P .any ops Q Φ [] fuel (bz n m') a' w') : wpAnyLast P .any ops Q Φ [] (fuel + 1) (bz n m) a w := by
  refine one_ (bz n m') hi hN (one_of HT.out hc) (by simp) (fun K hK => ?_)
  refine goes_ hf hname hb args hw hN hop hargs (h.mono fun e w' hh => ?_)
  obtain ⟨v, he, hp, hr⟩ := hh
  exact ⟨v, he, hK.out _ _ hp (fun _ => hr _ rfl)⟩
end
/-- Block numbers from lo to hi. -/
def Iv (lo hi k : Nat) : Prop := lo ≤ k ∧ k < hi
theorem Gs.top {T : Nat} {W : World} (h : T ≤ W.heap.size) : Gs (fun W => T ≤ W.heap.size) W := ⟨h, fun hb h => Nat.le_trans h hb.size⟩
theorem Gs.bel {w W : World} (h : Below w.heap.size w W) : Gs (fun W => Below w.heap.size w W) W := ⟨h, fun hb h => below_step h hb⟩
theorem Gs.ownS {α : Type} {d : Kd α} {e base : Nat} {ok : Nat → Prop} {v : Value} {xs : List α} {W : World} (h : Kd.S d e W base ok v xs) : Gs (fun W => Kd.S d e W base ok v xs) W := ⟨h, fun hb h => Kd.S_below h hb⟩
theorem Gs.ownR {α : Type} {d : Kd α} {e base : Nat} {ok : Nat → Prop} {v : Value} {xs : List α} {W : World} (h : d.R e W base ok v xs) : Gs (fun W => d.R e W base ok v xs) W := ⟨h, fun hb h => Kd.R_below h hb⟩
theorem newS {α : Type} {d : Kd α} {e T : Nat} {w0 W w1 : World} {ok : Nat → Prop} {v : Value} {xs : List α} (hT : T ≤ W.heap.size) (hb0 : Below w0.heap.size w0 W) (hb : Below W.heap.size W w1) (h : Kd.S d e w1 W.heap.size ok v xs) : ∃ lo hi, (T ≤ lo ∧ lo ≤ hi) ∧ hi ≤ w1.heap.size ∧ Kd.S d e w1 w0.heap.size (Iv lo hi) v xs :=
  ⟨W.heap.size, w1.heap.size, ⟨hT, hb.size⟩, Nat.le_refl _, Kd.S_lower (Kd.S_mono (Kd.S_bound h) (fun k hk => ⟨hk.2.1, hk.2.2.1⟩)) hb0.size⟩
theorem newR {α : Type} {d : Kd α} {e T : Nat} {w0 W w1 : World} {ok : Nat → Prop} {v : Value} {xs : List α} (hT : T ≤ W.heap.size) (hb0 : Below w0.heap.size w0 W) (hb : Below W.heap.size W w1) (h : d.R e w1 W.heap.size ok v xs) : ∃ lo hi, (T ≤ lo ∧ lo ≤ hi) ∧ hi ≤ w1.heap.size ∧ d.R e w1 w0.heap.size (Iv lo hi) v xs :=
  ⟨W.heap.size, w1.heap.size, ⟨hT, hb.size⟩, Nat.le_refl _, Kd.R_lower (Kd.R_mono (Kd.R_bound h) (fun k hk => ⟨hk.2.1, hk.2.2.1⟩)) hb0.size⟩
theorem Gs.blk {g : Nat} {t : TypeId} {cs : Array Value} {W : World} (h : W.heap[g]? = some (.cells cs t (0, 0))) : Gs (fun W => W.heap[g]? = some (.cells cs t (0, 0))) W := ⟨h, fun hb h => blk_below h hb⟩
def box2 (g : Nat) (b0 b1 : Value) (w : World) : Prop := w.cell? ⟨g, 0, none⟩ = some b0 ∧ w.cell? ⟨g, 1, none⟩ = some b1
theorem Gs.ofBox2 {g : Nat} {t : TypeId} {b0 b1 : Value} {W : World} (h : W.heap[g]? = some (.cells #[b0, b1] t (0, 0))) : Gs (box2 g b0 b1) W := ⟨⟨(blk_cell h 0).trans rfl, (blk_cell h 1).trans rfl⟩, fun hb h => ⟨pw_cell_below hb h.1, pw_cell_below hb h.2⟩⟩
theorem set2_blk {W : World} {g : Nat} {t : TypeId} {c0 c1 b0 b1 : Value} (hx : W.heap[g]? = some (.cells #[c0, c1] t (0, 0))) : ((W.setCell ⟨g, 0, none⟩ b0).setCell ⟨g, 1, none⟩ b1).heap[g]? = some (.cells #[b0, b1] t (0, 0)) := (blk_put (blk_put hx 0 b0 rfl) 1 b1 rfl)
theorem set2_far {W : World} {g k : Nat} {o : Obj} {b0 b1 : Value} (h : W.heap[k]? = some o) (hk : k ≠ g) : ((W.setCell ⟨g, 0, none⟩ b0).setCell ⟨g, 1, none⟩ b1).heap[k]? = some o := ((Below.heap_setCell _ ⟨g, 1, none⟩ b1 k hk).trans ((Below.heap_setCell _ ⟨g, 0, none⟩ b0 k hk).trans h))
theorem set2_below {V W : World} {g : Nat} {b0 b1 : Value} (h : Below V.heap.size V W) (hg : V.heap.size ≤ g) : Below V.heap.size V ((W.setCell ⟨g, 0, none⟩ b0).setCell ⟨g, 1, none⟩ b1) := (below_set (below_set h hg) hg)
theorem Gs.put2 {Φ : World → Prop} {V W : World} {g : Nat} {t : TypeId} {c0 c1 : Value} (b0 b1 : Value) (G : Gs Φ V) (hb : Aside0 (Below V.heap.size V W)) (hg : Aside0 (g = V.heap.size)) (hx : Aside0 (W.heap[g]? = some (.cells #[c0, c1] t (0, 0)))) :
    Gs (fun w => Φ w ∧ box2 g b0 b1 w) ((W.setCell ⟨g, 0, none⟩ b0).setCell ⟨g, 1, none⟩ b1) :=
  (G.go (set2_below hb.out (Nat.le_of_eq hg.out.symm))).add (Gs.ofBox2 (set2_blk hx.out))
theorem Gs.ofB2 {g : Nat} {b0 b1 : Value} {W : World} (h : box2 g b0 b1 W) : Gs (box2 g b0 b1) W := ⟨h, fun hb h => ⟨pw_cell_below hb h.1, pw_cell_below hb h.2⟩⟩
section
open Go.Proofs.YtdhignbneeapiaaW.PrintLast
variable {P : Program} {ops : Array Oper} {Q : Exit → Act → World → Prop} {Φ : World → Prop} {n m fuel : Nat} {a : Act} {w : World} {T : Bool × List (List Nat × List Nat)} {B : List Nat} {ds : List Nat}
/-- A region that draws its order, at its head; ds: what is done last. -/
theorem regD {id : Nat} (ds : List Nat) (G : Gs Φ w) (hm : P.follows .mixedOrders = true) (hn : ops.size = n) (hT : rtab .any ops = T) (hB : waitsOk T.2 B = true)
    (h : ∀ W, Below w.heap.size w W → Gs Φ W → Aside0 (rtab .any ops = T) → Aside0 (waitsOk T.2 B = true) → wpAnyLast P .any ops Q Φ ds n (bz n 0) a W) : (Code.region id ops true).wp P Q a w :=
  start_ (bz n 0) hm hn (bz_nil n) (G.go (below_drew (Below.refl _ _))).at_ (fun _ => h _ (below_drew (Below.refl _ _)) (G.go (below_drew (Below.refl _ _))) ⟨hT⟩ ⟨hB⟩)
/-- A call in such a region. -/
theorem rcD {oi : Oper} (i : Nat) (t : Tmp) (m' : Nat) (HT : Aside0 (rtab .any ops = T)) (hi : ops[i]? = some oi) (hN : oi.dst = some t) (hd : i ∉ ds) (hc : (readyT T.2 (bz n m).toList == [i] && (bz n m).toList.set i true == (bz n m').toList) = true)
    {f : FuncId} {fn : Func} {ars : Array Operand} {ts : Array TypeId} (hf : P.funcs[f]? = some fn) (hname : (fn.name == "runtime.NumGoroutine") = false) (hb : fn.body.isSome = true) (hop : oi.op = .call { callee := .value (.func f), args := ars, argTypes := ts }) (args : Array Value)
    (hw : Region.wanted oi (yielded ops a.tmps) = true) (hargs : ars.map a.eval = args)
    (h : Calls P f args w fun e w' => ∃ v, e = .returned v ∧ Φ w' ∧ ∀ a', a.put (some t) v = a' → wpAnyLast P .any ops Q Φ ds fuel (bz n m') a' w') : wpAnyLast P .any ops Q Φ ds (fuel + 1) (bz n m) a w := by
  refine one_ (bz n m') hi hN (one_of HT.out hc) hd (fun K hK => ?_)
  refine goes_ hf hname hb args hw hN hop hargs (h.mono fun e w' hh => ?_)
  obtain ⟨v, he, hp, hr⟩ := hh
  exact ⟨v, he, hK.out _ _ hp (fun _ => hr _ rfl)⟩
/-- A store that is done last. -/
theorem lsD {oi : Oper} (i : Nat) (m' : Nat) (w1 : World) (HT : Aside0 (rtab .any ops = T)) (hi : ops[i]? = some oi) (hN : oi.dst = none) (hd : i ∈ ds) (hc : (readyT T.2 (bz n m).toList == [i] && (bz n m).toList.set i true == (bz n m').toList) = true)
    (hw : Region.wanted oi (yielded ops a.tmps) = true) (hrun : (execOp a.eval oi).run P w = .ok .skip w1) (h : wpAnyLast P .any ops Q Φ ds fuel (bz n m') a w1) : wpAnyLast P .any ops Q Φ ds (fuel + 1) (bz n m) a w := by
  refine last_ (bz n m') hi hN (one_of HT.out hc) hd (fun K hK => ?_)
  exact skip_ hw hN hrun (hK.out _ _ h)
end
theorem Gs.put24 {Φ : World → Prop} {V W X : World} {g g' : Nat} {t t' : TypeId} {c0 c1 e0 e1 e2 e3 : Value} (b0 b1 d0 d1 d2 d3 : Value) (G : Gs Φ V) (hb : Aside0 (Below V.heap.size V W)) (hg : Aside0 (g = V.heap.size)) (hx : Aside0 (W.heap[g]? = some (.cells #[c0, c1] t (0, 0))))
    (hb' : Aside0 (Below W.heap.size W X)) (hg' : Aside0 (g' = W.heap.size)) (hx' : Aside0 (X.heap[g']? = some (.cells #[e0, e1, e2, e3] t' (0, 0)))) :
    Gs (fun w => (Φ w ∧ box2 g b0 b1 w) ∧ box4 g' d0 d1 d2 d3 w) ((((((X.setCell ⟨g, 0, none⟩ b0).setCell ⟨g, 1, none⟩ b1).setCell ⟨g', 0, none⟩ d0).setCell ⟨g', 1, none⟩ d1).setCell ⟨g', 2, none⟩ d2).setCell ⟨g', 3, none⟩ d3) := by
  have hlt := blk_lt hx.out
  have hne : g ≠ g' := by rw [hg'.out]; omega
  have e1 : V.heap.size ≤ g := Nat.le_of_eq hg.out.symm
  have e2 : V.heap.size ≤ g' := by rw [hg'.out]; exact hb.out.size
  exact ((G.go (set4_below (set2_below (below_step hb.out hb'.out) e1) e2)).add (Gs.ofBox2 (set4_far (set2_blk (blk_below hx.out hb'.out)) hne))).add (Gs.ofBox4 (set4_blk (set2_far hx'.out (Ne.symm hne))))
theorem Gs.put22 {Φ : World → Prop} {V W X : World} {g g' : Nat} {t t' : TypeId} {c0 c1 e0 e1 : Value} (b0 b1 d0 d1 : Value) (G : Gs Φ V) (hb : Aside0 (Below V.heap.size V W)) (hg : Aside0 (g = V.heap.size)) (hx : Aside0 (W.heap[g]? = some (.cells #[c0, c1] t (0, 0))))
    (hb' : Aside0 (Below W.heap.size W X)) (hg' : Aside0 (g' = W.heap.size)) (hx' : Aside0 (X.heap[g']? = some (.cells #[e0, e1] t' (0, 0)))) :
    Gs (fun w => (Φ w ∧ box2 g b0 b1 w) ∧ box2 g' d0 d1 w) ((((X.setCell ⟨g, 0, none⟩ b0).setCell ⟨g, 1, none⟩ b1).setCell ⟨g', 0, none⟩ d0).setCell ⟨g', 1, none⟩ d1) := by
  have hlt := blk_lt hx.out
  have hne : g ≠ g' := by rw [hg'.out]; omega
  have e1 : V.heap.size ≤ g := Nat.le_of_eq hg.out.symm
  have e2 : V.heap.size ≤ g' := by rw [hg'.out]; exact hb.out.size
  exact ((G.go (set2_below (set2_below (below_step hb.out hb'.out) e1) e2)).add (Gs.ofBox2 (set2_far (set2_blk (blk_below hx.out hb'.out)) hne))).add (Gs.ofBox2 (set2_blk (set2_far hx'.out (Ne.symm hne))))
/-! ### append(v, ys...) of a row whose elements' rows are told apart, to one whose are -/
section
variable {P : Program} {ops : Array Oper} {rest : List Oper} {o : Oper} {a : Act} {Q : Exit → Act → World → Prop} {α : Type}
end
/-! ### impl_PutChain: function 6 (by hand) -/
def impl_PutChain.f (k : Nat) (a0_0 : Int) (l0_1 : List (S29)) (l1_0 : List (S76)) (a1_1 : Int) (a1_2 : Int) (a1_3 : ByteArray) : Option (Int × (List (S29)) × Bool) := (impl_copyChain.f k a0_0 l0_1).bind fun bt296 => ((impl_InChain.f k a0_0 l0_1 l1_0).bind fun t301 => (if t301 ≥ 0 then (if 0 ≤ t301 then (if t301 < (l0_1.length : Int) then ((impl_Merge.f ((rd_T29 l0_1 t301).f0) ((rd_T29 l0_1 t301).f1) ((rd_T29 l0_1 t301).f2) ((rd_T29 l0_1 t301).f3) l1_0 a1_1 a1_2 a1_3).bind fun bt303 => (if t301 < (bt296.2.length : Int) then (some (bt296.1, (bt296.2.set (t301 : Int).toNat (⟨bt303.1, bt303.2.1, bt303.2.2.1, bt303.2.2.2⟩ : S29)), false)) else (none))) else (none)) else (none)) else ((impl_copyAlarm.f l1_0 a1_1 a1_2 a1_3).bind fun bt310 => (if bt296.2.length < 549755813888 then (some (bt296.1, (bt296.2 ++ [(⟨bt310.1, bt310.2.1, bt310.2.2.1, bt310.2.2.2⟩ : S29)]), true)) else (none)))))
def laws_PutChain_.T4 : Bool × List (List Nat × List Nat) := (true, [([], []), ([0], [0]), ([], []), ([], []), ([3], [3]), ([], []), ([4, 5], [4, 5]), ([6], [6]), ([], []), ([7, 8], [7, 8]), ([1, 2, 0, 1, 2, 3, 4, 5, 6, 7, 8, 9], [1, 2]), ([10, 9, 9, 0, 1, 2, 3, 4, 5, 6, 7, 8, 9], [9, 10])])
def laws_PutChain_.B4 : List Nat := [0, 1, 0, 0, 8, 0, 56, 120, 0, 504, 1023, 2047]
theorem laws_PutChain_.tab4 : rtab .any (opsOf Try.f6 4) = laws_PutChain_.T4 := by kernel_rfl
theorem laws_PutChain_.bits4 : waitsOk laws_PutChain_.T4.2 laws_PutChain_.B4 = true := by kernel_rfl
def laws_PutChain_.T6 : Bool × List (List Nat × List Nat) := (true, [([], []), ([0], [0]), ([], []), ([2], [2]), ([3], [3]), ([1, 4, 3], [1, 4]), ([0, 1, 2, 3, 4, 5], []), ([6, 5, 5, 0, 1, 2, 3, 4, 5], [5, 6])])
def laws_PutChain_.B6 : List Nat := [0, 1, 0, 4, 12, 31, 63, 127]
theorem laws_PutChain_.tab6 : rtab .any (opsOf Try.f6 6) = laws_PutChain_.T6 := by kernel_rfl
theorem laws_PutChain_.bits6 : waitsOk laws_PutChain_.T6.2 laws_PutChain_.B6 = true := by kernel_rfl
set_option maxHeartbeats 16000000 in
set_option maxRecDepth 100000 in
theorem impl_PutChain.way1 (k : Nat) (a0_0 : Int) (A0_1 : Option Addr) (c0_1 : Nat) (l0_1 : List S29) (A1_0 : Option Addr) (c1_0 : Nat) (l1_0 : List S76) (a1_1 : Int) (a1_2 : Int) (a1_3 : ByteArray) (w : World) (hr0_1 : Kd.C k29 w A0_1 l0_1.length l0_1) (hc0_1 : l0_1.length ≤ c0_1) (hr1_0 : Kd.C k76 w A1_0 l1_0.length l1_0) (hc1_0 : l1_0.length ≤ c1_0) (fc : Int) (m0 : List (S29)) (t : Int) (lx : List (S76)) (sx : Int) (ex : Int) (nx : ByteArray)
  (F1 : Aside0 (impl_copyChain.f k a0_0 l0_1 = some (fc, m0)))
  (F2 : Aside0 (impl_InChain.f k a0_0 l0_1 l1_0 = some t))
  (F3 : Aside0 (impl_Merge.f ((rd_T29 l0_1 t).f0) ((rd_T29 l0_1 t).f1) ((rd_T29 l0_1 t).f2) ((rd_T29 l0_1 t).f3) l1_0 a1_1 a1_2 a1_3 = some (lx, sx, ex, nx)))
  (K0 : Aside0 (decide (0 ≤ t) = true))
  (HQ : Aside0 (t < (l0_1.length : Int))) (HQ1 : Aside0 (t < (m0.length : Int))) :
  Calls Try.prog 6 #[.agg #[.int .i64 a0_0, .slice A0_1 l0_1.length c0_1], .agg #[.slice A1_0 l1_0.length c1_0, .int .i64 a1_1, .int .i64 a1_2, .string a1_3]] w fun e w' => ∃ v1_ : Value, e = .returned (.tuple #[.agg #[.int .i64 fc, v1_], .bool false]) ∧ Kd.S k29 29 w' w.heap.size (fun _ => True) v1_ (m0.set t.toNat (⟨lx, sx, ex, nx⟩ : S29)) ∧ Below w.heap.size w w' := by
 have Hc0_1 := aM hc0_1
 have Hc1_0 := aM hc1_0
 have HR0_1 := aM hr0_1
 have HR1_0 := aM hr1_0
 have G := (Gs.below w).add (Gs.top (Nat.le_refl w.heap.size))
 clear hc0_1 hc1_0 hr0_1 hr1_0
 go_enter Try.func6, Try.ntmps6
 go_upto_region 1 with (first | (refine be_ 2 #[.int .i64 a0_0, .slice A0_1 l0_1.length c0_1] 26 ?_; intro g2 hg w2 hbox hb; have Hg2 := aM (show w.heap.size ≤ g2 from hg ▸ G.at_.2); have G1 := (((G.go hb).add (Gs.ofBox2 hbox)).add (Gs.top (Nat.succ_le_of_lt (blk_lt hbox)))); clear hb hbox hg G; have G := G1; clear G1) | (refine be_ 3 #[.slice A1_0 l1_0.length c1_0, .int .i64 a1_1, .int .i64 a1_2, .string a1_3] 29 ?_; intro g3 hg w2 hbox hb; have Hg3 := aM (show g2 + 1 ≤ g3 from hg ▸ G.at_.2); have G1 := (((G.go hb).add (Gs.ofBox4 hbox)).add (Gs.top (Nat.succ_le_of_lt (blk_lt hbox)))); clear hb hbox hg G; have G := G1; clear G1) | (refine be_ 4 #[.int .i64 0, .slice none 0 0] 26 ?_; intro g4 hg w2 hbox hb; have Hg4 := aM (show g3 + 1 ≤ g4 from hg ▸ G.at_.2); have G1 := (((G.go hb).add (Gs.blk hbox)).add (Gs.top (Nat.succ_le_of_lt (blk_lt hbox)))); clear hb hbox hg G; have G := G1; clear G1))
 obtain ⟨zg2_0, zg2_1⟩ := G.at_.1.1.1.1.1.2
 go_upto_region 2 with (first | (refine gl_ (some 9) Try.func28 #[.agg #[.int .i64 a0_0, .slice A0_1 l0_1.length c0_1]] ?_; refine (impl_copyChain.calls k a0_0 _ _ l0_1 fc m0 _ (Kd.C_below HR0_1.out G.at_.1.1.1.1.1.1.1) Hc0_1.out F1.out).mono ?_; rintro e w1 ⟨v9_0, rfl, ho9_0, hb⟩; refine ⟨_, rfl, ?_⟩; obtain ⟨A9_0, c9_0, rfl, _, _⟩ := Kd.S_reads ho9_0; obtain ⟨loA9_0, hiA9_0, hOA9_0, hTA9_0, hSA9_0⟩ := newS G.at_.2 G.at_.1.1.1.1.1.1.1 hb ho9_0; have OA9_0 := aM hOA9_0; clear hOA9_0 ho9_0; have G1 := (((G.go hb).add (Gs.ownS hSA9_0)).add (Gs.top hTA9_0)); clear G hb hSA9_0 hTA9_0; have G := G1; clear G1) | (refine be_ 6 #[.int .i64 0, .slice none 0 0] 26 ?_; intro g6 hg w2 hbox hb; have Hg6 := aM (show hiA9_0 ≤ g6 from hg ▸ G.at_.2); have HB_g6 := aM hb; have HE_g6 := aM hg; have BK_g6 := aM hbox; have zg6_0 := cz2_0 ⟨hbox⟩; have yg6_0 := blk_frozen hbox 0; have zg6_1 := cz2_1 ⟨hbox⟩; have yg6_1 := blk_frozen hbox 1; clear hb hbox hg))
 (try clear zg2_0)
 (try clear zg2_1)
 (try clear zg6_0)
 (try clear yg6_0)
 (try clear zg6_1)
 (try clear yg6_1)
 have G1 := ((Gs.put2 (.int .i64 fc) (.slice A9_0 m0.length c9_0) G HB_g6 HE_g6 BK_g6).add (Gs.blk (set2_blk BK_g6.out))).add (Gs.top (Nat.succ_le_of_lt (blk_lt (set2_blk BK_g6.out))))
 clear G; have G := G1; clear G1
 generalize ((w2.setCell ⟨g6, 0, none⟩ (.int .i64 fc)).setCell ⟨g6, 1, none⟩ (.slice A9_0 m0.length c9_0)) = w3 at G ⊢
 clear HB_g6 HE_g6 BK_g6
 obtain ⟨zg2_0, zg2_1⟩ := G.at_.1.1.1.1.1.1.1.1.1.1.2
 obtain ⟨zg3_0, zg3_1, zg3_2, zg3_3⟩ := G.at_.1.1.1.1.1.1.1.1.2
 go_upto_region 3 with (first | (refine gl_ (some 13) Try.func19 #[.agg #[.int .i64 a0_0, .slice A0_1 l0_1.length c0_1], .slice A1_0 l1_0.length c1_0] ?_; refine (impl_InChain.calls k a0_0 _ _ l0_1 _ _ l1_0 t _ (Kd.C_below HR0_1.out G.at_.1.1.1.1.1.1.1.1.1.1.1.1) Hc0_1.out (Kd.C_below HR1_0.out G.at_.1.1.1.1.1.1.1.1.1.1.1.1) Hc1_0.out F2.out).mono ?_; rintro e w1 ⟨rfl, hb⟩; refine ⟨_, rfl, ?_⟩; have G1 := (G.go hb); clear G hb; have G := G1; clear G1))
 (try clear zg2_0)
 (try clear zg2_1)
 (try clear zg3_0)
 (try clear zg3_1)
 (try clear zg3_2)
 (try clear zg3_3)
 have hk0_ := K0.out
 go_upto_region 4 with (fail)
 have p0 : 0 ≤ t := of_decide_eq_true K0.out
 have q0 := HQ.out
 have q1 := HQ1.out
 obtain ⟨ad, Ae, ce, e_, hx0, hx1, hx2, hx3, hle, hCe⟩ := at_T29 HR0_1.out t p0 q0
 cases e_
 have Hce := aM hle
 have HCe := aM hCe
 clear hle hCe
 obtain ⟨g9, cap_, ev_, _, _, _⟩ := Kd.S_form G.at_.1.1.1.1.2 (by omega)
 injection ev_ with eA_ _ ec_
 subst eA_
 subst ec_
 have hB := G.at_.1.1.1.1.1.1.1.1.1.1.1.1
 have G1 := (((G.add (Gs.cell (pw_cell_below hB hx0))).add (Gs.cell (pw_cell_below hB hx1))).add (Gs.cell (pw_cell_below hB hx2))).add (Gs.cell (pw_cell_below hB hx3))
 clear G hB hx0 hx1 hx2 hx3; have G := G1; clear G1
 have p0t := eq_true p0
 have q0t := eq_true q0
 have q1t := eq_true q1
 refine Gs.hide G (fun Ψ GP hP hQ => ?_)
 clear G
 refine regD [11] GP (by kernel_rfl) rfl laws_PutChain_.tab4 laws_PutChain_.bits4 (fun wr hbr GV HT_ HW_ => ?_)
 clear GP hbr
 have HB := aM (Below.refl wr.heap.size wr)
 refine (pu 0 (some 16) 1 ?_ ?_ HT_ ?_ ?_ ?_ (tk 1 (some 17) 3 ?_ ?_ HT_ HW_ (GV.go HB.out).at_ ?_ ?_ ?_ (pu 2 (some 18) 7 ?_ ?_ HT_ ?_ ?_ ?_ (pu 3 (some 19) 15 ?_ ?_ HT_ ?_ ?_ ?_ (tk 4 (some 20) 31 ?_ ?_ HT_ HW_ (GV.go HB.out).at_ ?_ ?_ ?_ (pu 5 (some 21) 63 ?_ ?_ HT_ ?_ ?_ ?_ (pu 6 (some 22) 127 ?_ ?_ HT_ ?_ ?_ ?_ (tk 7 (some 23) 255 ?_ ?_ HT_ HW_ (GV.go HB.out).at_ ?_ ?_ ?_ (tk 8 (some 24) 511 ?_ ?_ HT_ HW_ (GV.go HB.out).at_ ?_ ?_ ?_ ?_)))))))))
 all_goals first | (rintro w' hp_; obtain ⟨⟨⟨⟨⟨⟨⟨⟨⟨⟨⟨⟨⟨⟨⟨⟨-, -⟩, ⟨s0, s1⟩⟩, -⟩, ⟨s2, s3, s4, s5⟩⟩, -⟩, -⟩, -⟩, -⟩, -⟩, ⟨s6, s7⟩⟩, -⟩, -⟩, s8⟩, s9⟩, s10⟩, s11⟩ := hP _ hp_; go_simp; with_reducible rfl) | (intro w'; go_simp; with_reducible rfl) | (simp only [u6_]; rfl) | rfl | skip
 refine rcD 9 25 1023 HT_ rfl rfl (by decide) (by kernel_rfl) Try.func22 (by kernel_rfl) rfl rfl #[.agg #[.slice Ae (rd_T29 l0_1 t).f0.length ce, .int .i64 ((rd_T29 l0_1 t).f1), .int .i64 ((rd_T29 l0_1 t).f2), .string ((rd_T29 l0_1 t).f3)], .agg #[.slice A1_0 l1_0.length c1_0, .int .i64 a1_1, .int .i64 a1_2, .string a1_3]] (by rfl) (by (try simp only [List.map_toArray, List.map_cons, List.map_nil]); first | done | rfl) ?_
 refine (impl_Merge.calls _ _ ((rd_T29 l0_1 t).f0) ((rd_T29 l0_1 t).f1) ((rd_T29 l0_1 t).f2) ((rd_T29 l0_1 t).f3) _ _ l1_0 a1_1 a1_2 a1_3 lx sx ex nx _ (Kd.C_below HCe.out (hP _ (GV.go HB.out).at_).1.1.1.1.1.1.1.1.1.1.1.1.1.1.1.1) Hce.out (Kd.C_below HR1_0.out (hP _ (GV.go HB.out).at_).1.1.1.1.1.1.1.1.1.1.1.1.1.1.1.1) Hc1_0.out F3.out).mono ?_
 rintro e w1 ⟨v25_0, rfl, ho25_0, hb⟩
 obtain ⟨A25_0, c25_0, rfl, _, _⟩ := Kd.R_reads ho25_0
 have hTop := (hP _ (GV.go HB.out).at_).1.1.1.1.2
 obtain ⟨loA25_0, hiA25_0, hOA25_0, hTA25_0, hSA25_0⟩ := newR (Nat.le_refl _) (hP _ (GV.go HB.out).at_).1.1.1.1.1.1.1.1.1.1.1.1.1.1.1.1 hb ho25_0
 have XA25_0 := Gs.ownR hSA25_0
 have OA25_0 := aM (And.intro (Nat.le_trans hTop hOA25_0.1) hOA25_0.2)
 (try clear HTI)
 have HTI := aM hTA25_0
 clear hTop
 have HB1 := aM (below_step HB.out hb); clear HB hb hOA25_0 hTA25_0 hSA25_0 ho25_0; have HB := HB1; clear HB1
 refine ⟨_, rfl, (GV.go HB.out).at_, ?_⟩; intro a' ha; simp only [u6_] at ha; subst ha
 refine (pu 10 (some 26) 2047 ?_ ?_ HT_ ?_ ?_ ?_ ?_)
 all_goals first | (rintro w' hp_; obtain ⟨⟨⟨⟨⟨⟨⟨⟨⟨⟨⟨⟨⟨⟨⟨⟨-, -⟩, ⟨s0, s1⟩⟩, -⟩, ⟨s2, s3, s4, s5⟩⟩, -⟩, -⟩, -⟩, -⟩, -⟩, ⟨s6, s7⟩⟩, -⟩, -⟩, s8⟩, s9⟩, s10⟩, s11⟩ := hP _ hp_; go_simp; with_reducible rfl) | (intro w'; go_simp; with_reducible rfl) | (simp only [u6_]; rfl) | rfl | skip
 have hr9 := (hP _ (GV.go HB.out).at_).1.1.1.1.1.1.1.1.2
 have h4 := (hP _ (GV.go HB.out).at_).1.1.1.1.1.1.1.1.1.1.2
 have h6 := (hP _ (GV.go HB.out).at_).1.1.1.1.1.2
 have hbw := (hP _ (GV.go HB.out).at_).1.1.1.1.1.1.1.1.1.1.1.1.1.1.1.1
 have hin9 := (Kd.S_R hr9).1 g9 (by simp [Value.ownBlock])
 have hg9 := (Kd.S_base hr9) g9 (by simp [Value.ownBlock])
 obtain ⟨oki, c_, hcl, hM, hcc, hfr, hoki, hH⟩ := Kd.S_elem (Kd.S_mono hr9 (ok' := fun k_ => k_ ≠ g4 ∧ ¬ Iv loA25_0 hiA25_0 k_) (fun k_ hk_ => (by unfold Iv at *; have o0_ := Hg2.out; have o1_ := Hg3.out; have o2_ := Hg4.out; have o3_ := OA9_0.out; have o4_ := Hg6.out; have o5_ := OA25_0.out; omega))) z29 t p0 q1
 obtain ⟨v_, rfl, _⟩ := k29_openM hM
 have z0 : World.cell? _ ⟨g9, t.toNat * 4, none⟩ = some v_ := hcc 0 _ rfl
 have y0 : World.frozen? _ ⟨g9, t.toNat * 4, none⟩ = false := hfr 0
 have z1 : World.cell? _ ⟨g9, t.toNat * 4 + 1, none⟩ = some (.int .i64 (rd_T29 m0 t).f1) := hcc 1 _ rfl
 have y1 : World.frozen? _ ⟨g9, t.toNat * 4 + 1, none⟩ = false := hfr 1
 have z2 : World.cell? _ ⟨g9, t.toNat * 4 + 2, none⟩ = some (.int .i64 (rd_T29 m0 t).f2) := hcc 2 _ rfl
 have y2 : World.frozen? _ ⟨g9, t.toNat * 4 + 2, none⟩ = false := hfr 2
 have z3 : World.cell? _ ⟨g9, t.toNat * 4 + 3, none⟩ = some (.string (rd_T29 m0 t).f3) := hcc 3 _ rfl
 have y3 : World.frozen? _ ⟨g9, t.toNat * 4 + 3, none⟩ = false := hfr 3
 refine lsD 11 4095 (w1 := ?w11_) HT_ rfl rfl (by decide) (by kernel_rfl) (by rfl) ?hr11_ ?_
 case hr11_ => go_simp; rfl
 clear z0 z1 z2 z3 y0 y1 y2 y3 hcl hcc hfr hM
 refine done_ (done_of HT_.out (by kernel_rfl)) ?_
 have hS1 := (Kd.S_seg (okg := Iv loA25_0 hiA25_0) hH p0 q1 (seg := [.slice A25_0 lx.length c25_0, .int .i64 sx, .int .i64 ex, .string nx]) (j := 0) (show 0 + 4 ≤ 4 by decide) (x' := (⟨lx, sx, ex, nx⟩ : S29)) (okp := Iv loA25_0 hiA25_0) (k29_mkM _ _ _ (⟨lx, sx, ex, nx⟩ : S29) (v0 := .slice A25_0 lx.length c25_0) XA25_0.at_) (fun _ h_ => Or.inr h_) (fun k_ h_ => (by unfold Iv at *; have o0_ := Hg2.out; have o1_ := Hg3.out; have o2_ := Hg4.out; have o3_ := OA9_0.out; have o4_ := Hg6.out; have o5_ := OA25_0.out; constructor <;> omega))).1
 have hK0 := Kept.refl w1 (fun k_ => k_ = g9)
 have hK1 := Kept.setCell hK0 (p := ⟨g9, t.toNat * 4, none⟩) (Or.inl rfl) (.slice A25_0 lx.length c25_0)
 have hK2 := Kept.setCell hK1 (p := ⟨g9, t.toNat * 4 + 1, none⟩) (Or.inl rfl) (.int .i64 sx)
 have hK3 := Kept.setCell hK2 (p := ⟨g9, t.toNat * 4 + 2, none⟩) (Or.inl rfl) (.int .i64 ex)
 have hK4 := Kept.setCell hK3 (p := ⟨g9, t.toNat * 4 + 3, none⟩) (Or.inl rfl) (.string nx)
 have H4 := aM ((hK4.2 g4 (blk_lt h4) (by unfold Iv at *; have o0_ := Hg2.out; have o1_ := Hg3.out; have o2_ := Hg4.out; have o3_ := OA9_0.out; have o4_ := Hg6.out; have o5_ := OA25_0.out; omega)).trans h4)
 have H6 := aM ((hK4.2 g6 (blk_lt h6) (by unfold Iv at *; have o0_ := Hg2.out; have o1_ := Hg3.out; have o2_ := Hg4.out; have o3_ := OA9_0.out; have o4_ := Hg6.out; have o5_ := OA25_0.out; omega)).trans h6)
 have HBW := aM (show Below w.heap.size w ((((w1.setCell ⟨g9, t.toNat * 4, none⟩ (.slice A25_0 lx.length c25_0)).setCell ⟨g9, t.toNat * 4 + 1, none⟩ (.int .i64 sx)).setCell ⟨g9, t.toNat * 4 + 2, none⟩ (.int .i64 ex)).setCell ⟨g9, t.toNat * 4 + 3, none⟩ (.string nx)) from below_set (below_set (below_set (below_set hbw hg9) hg9) hg9) hg9)
 have HS1 := aM (show Kd.S k29 29 ((((w1.setCell ⟨g9, t.toNat * 4, none⟩ (.slice A25_0 lx.length c25_0)).setCell ⟨g9, t.toNat * 4 + 1, none⟩ (.int .i64 sx)).setCell ⟨g9, t.toNat * 4 + 2, none⟩ (.int .i64 ex)).setCell ⟨g9, t.toNat * 4 + 3, none⟩ (.string nx)) w.heap.size (fun k_ => k_ ≠ g4) (.slice (some ⟨g9, 0, none⟩) m0.length c9_0) (m0.set t.toNat (⟨lx, sx, ex, nx⟩ : S29)) from hS1)
 have HG4 := aM (show w.heap.size ≤ g4 from (by unfold Iv at *; have o0_ := Hg2.out; have o1_ := Hg3.out; have o2_ := Hg4.out; have o3_ := OA9_0.out; have o4_ := Hg6.out; have o5_ := OA25_0.out; omega))
 clear hS1 hK0 hK1 hK2 hK3 hK4 h4 h6 hbw hH hoki hr9 GV hP hQ HB
 generalize ((((w1.setCell ⟨g9, t.toNat * 4, none⟩ (.slice A25_0 lx.length c25_0)).setCell ⟨g9, t.toNat * 4 + 1, none⟩ (.int .i64 sx)).setCell ⟨g9, t.toNat * 4 + 2, none⟩ (.int .i64 ex)).setCell ⟨g9, t.toNat * 4 + 3, none⟩ (.string nx)) = w9 at H4 H6 HBW HS1 ⊢
 have z4_0 := cz2_0 H4
 have z4_1 := cz2_1 H4
 have y4_0 := blk_frozen H4.out 0
 have y4_1 := blk_frozen H4.out 1
 have z6_0 := cz2_0 H6
 have z6_1 := cz2_1 H6
 have n46 : g4 ≠ g6 := (by unfold Iv at *; have o0_ := Hg2.out; have o1_ := Hg3.out; have o2_ := Hg4.out; have o3_ := OA9_0.out; have o4_ := Hg6.out; have o5_ := OA25_0.out; omega)
 have n64 : g6 ≠ g4 := fun h_ => n46 h_.symm
 go_wp2
 refine bodyPost_ret (results_ct rfl _ _ g4 26 #[.int .i64 fc, .slice (some ⟨g9, 0, none⟩) m0.length c9_0] (0, 0) _ rfl (set2_blk H4.out) Try.underlying26 rfl (by kernel_rfl)) rfl ?_
 exact ⟨_, rfl, Kd.S_mono (Kd.S_far (Kd.S_far HS1.out (p := ⟨g4, 0, none⟩) (fun _ h_ => h_) _) (p := ⟨g4, 1, none⟩) (fun _ h_ => h_) _) (fun _ _ => trivial), below_set (below_set HBW.out HG4.out) HG4.out⟩
set_option maxHeartbeats 16000000 in
set_option maxRecDepth 100000 in
theorem impl_PutChain.way2 (k : Nat) (a0_0 : Int) (A0_1 : Option Addr) (c0_1 : Nat) (l0_1 : List S29) (A1_0 : Option Addr) (c1_0 : Nat) (l1_0 : List S76) (a1_1 : Int) (a1_2 : Int) (a1_3 : ByteArray) (w : World) (hr0_1 : Kd.C k29 w A0_1 l0_1.length l0_1) (hc0_1 : l0_1.length ≤ c0_1) (hr1_0 : Kd.C k76 w A1_0 l1_0.length l1_0) (hc1_0 : l1_0.length ≤ c1_0) (fc : Int) (m0 : List (S29)) (t : Int) (lx : List (S76)) (sx : Int) (ex : Int) (nx : ByteArray)
  (F1 : Aside0 (impl_copyChain.f k a0_0 l0_1 = some (fc, m0)))
  (F2 : Aside0 (impl_InChain.f k a0_0 l0_1 l1_0 = some t))
  (F3 : Aside0 (impl_copyAlarm.f l1_0 a1_1 a1_2 a1_3 = some (lx, sx, ex, nx)))
  (K0 : Aside0 (decide (0 ≤ t) = false))
  (HL : Aside0 (m0.length < 549755813888)) :
  Calls Try.prog 6 #[.agg #[.int .i64 a0_0, .slice A0_1 l0_1.length c0_1], .agg #[.slice A1_0 l1_0.length c1_0, .int .i64 a1_1, .int .i64 a1_2, .string a1_3]] w fun e w' => ∃ v1_ : Value, e = .returned (.tuple #[.agg #[.int .i64 fc, v1_], .bool true]) ∧ Kd.S k29 29 w' w.heap.size (fun _ => True) v1_ (m0 ++ [(⟨lx, sx, ex, nx⟩ : S29)]) ∧ Below w.heap.size w w' := by
 have Hc0_1 := aM hc0_1
 have Hc1_0 := aM hc1_0
 have HR0_1 := aM hr0_1
 have HR1_0 := aM hr1_0
 have G := (Gs.below w).add (Gs.top (Nat.le_refl w.heap.size))
 clear hc0_1 hc1_0 hr0_1 hr1_0
 go_enter Try.func6, Try.ntmps6
 go_upto_region 1 with (first | (refine be_ 2 #[.int .i64 a0_0, .slice A0_1 l0_1.length c0_1] 26 ?_; intro g2 hg w2 hbox hb; have Hg2 := aM (show w.heap.size ≤ g2 from hg ▸ G.at_.2); have G1 := (((G.go hb).add (Gs.ofBox2 hbox)).add (Gs.top (Nat.succ_le_of_lt (blk_lt hbox)))); clear hb hbox hg G; have G := G1; clear G1) | (refine be_ 3 #[.slice A1_0 l1_0.length c1_0, .int .i64 a1_1, .int .i64 a1_2, .string a1_3] 29 ?_; intro g3 hg w2 hbox hb; have Hg3 := aM (show g2 + 1 ≤ g3 from hg ▸ G.at_.2); have G1 := (((G.go hb).add (Gs.ofBox4 hbox)).add (Gs.top (Nat.succ_le_of_lt (blk_lt hbox)))); clear hb hbox hg G; have G := G1; clear G1) | (refine be_ 4 #[.int .i64 0, .slice none 0 0] 26 ?_; intro g4 hg w2 hbox hb; have Hg4 := aM (show g3 + 1 ≤ g4 from hg ▸ G.at_.2); have G1 := (((G.go hb).add (Gs.blk hbox)).add (Gs.top (Nat.succ_le_of_lt (blk_lt hbox)))); clear hb hbox hg G; have G := G1; clear G1))
 obtain ⟨zg2_0, zg2_1⟩ := G.at_.1.1.1.1.1.2
 go_upto_region 2 with (first | (refine gl_ (some 9) Try.func28 #[.agg #[.int .i64 a0_0, .slice A0_1 l0_1.length c0_1]] ?_; refine (impl_copyChain.calls k a0_0 _ _ l0_1 fc m0 _ (Kd.C_below HR0_1.out G.at_.1.1.1.1.1.1.1) Hc0_1.out F1.out).mono ?_; rintro e w1 ⟨v9_0, rfl, ho9_0, hb⟩; refine ⟨_, rfl, ?_⟩; obtain ⟨A9_0, c9_0, rfl, _, _⟩ := Kd.S_reads ho9_0; obtain ⟨loA9_0, hiA9_0, hOA9_0, hTA9_0, hSA9_0⟩ := newS G.at_.2 G.at_.1.1.1.1.1.1.1 hb ho9_0; have OA9_0 := aM hOA9_0; clear hOA9_0 ho9_0; have G1 := (((G.go hb).add (Gs.ownS hSA9_0)).add (Gs.top hTA9_0)); clear G hb hSA9_0 hTA9_0; have G := G1; clear G1) | (refine be_ 6 #[.int .i64 0, .slice none 0 0] 26 ?_; intro g6 hg w2 hbox hb; have Hg6 := aM (show hiA9_0 ≤ g6 from hg ▸ G.at_.2); have HB_g6 := aM hb; have HE_g6 := aM hg; have BK_g6 := aM hbox; have zg6_0 := cz2_0 ⟨hbox⟩; have yg6_0 := blk_frozen hbox 0; have zg6_1 := cz2_1 ⟨hbox⟩; have yg6_1 := blk_frozen hbox 1; clear hb hbox hg))
 (try clear zg2_0)
 (try clear zg2_1)
 (try clear zg6_0)
 (try clear yg6_0)
 (try clear zg6_1)
 (try clear yg6_1)
 have G1 := ((Gs.put2 (.int .i64 fc) (.slice A9_0 m0.length c9_0) G HB_g6 HE_g6 BK_g6).add (Gs.blk (set2_blk BK_g6.out))).add (Gs.top (Nat.succ_le_of_lt (blk_lt (set2_blk BK_g6.out))))
 clear G; have G := G1; clear G1
 generalize ((w2.setCell ⟨g6, 0, none⟩ (.int .i64 fc)).setCell ⟨g6, 1, none⟩ (.slice A9_0 m0.length c9_0)) = w3 at G ⊢
 clear HB_g6 HE_g6 BK_g6
 obtain ⟨zg2_0, zg2_1⟩ := G.at_.1.1.1.1.1.1.1.1.1.1.2
 obtain ⟨zg3_0, zg3_1, zg3_2, zg3_3⟩ := G.at_.1.1.1.1.1.1.1.1.2
 go_upto_region 3 with (first | (refine gl_ (some 13) Try.func19 #[.agg #[.int .i64 a0_0, .slice A0_1 l0_1.length c0_1], .slice A1_0 l1_0.length c1_0] ?_; refine (impl_InChain.calls k a0_0 _ _ l0_1 _ _ l1_0 t _ (Kd.C_below HR0_1.out G.at_.1.1.1.1.1.1.1.1.1.1.1.1) Hc0_1.out (Kd.C_below HR1_0.out G.at_.1.1.1.1.1.1.1.1.1.1.1.1) Hc1_0.out F2.out).mono ?_; rintro e w1 ⟨rfl, hb⟩; refine ⟨_, rfl, ?_⟩; have G1 := (G.go hb); clear G hb; have G := G1; clear G1))
 (try clear zg2_0)
 (try clear zg2_1)
 (try clear zg3_0)
 (try clear zg3_1)
 (try clear zg3_2)
 (try clear zg3_3)
 have hk0_ := K0.out
 go_upto_region 6 with (fail)
 refine Gs.hide G (fun Ψ GP hP hQ => ?_)
 clear G
 refine regD [5, 7] GP (by kernel_rfl) rfl laws_PutChain_.tab6 laws_PutChain_.bits6 (fun wr hbr GV HT_ HW_ => ?_)
 clear GP hbr
 have HB := aM (Below.refl wr.heap.size wr)
 refine (pu 0 (some 28) 1 ?_ ?_ HT_ ?_ ?_ ?_ (tk 1 (some 29) 3 ?_ ?_ HT_ HW_ (GV.go HB.out).at_ ?_ ?_ ?_ (tk 2 (some 30) 7 ?_ ?_ HT_ HW_ (GV.go HB.out).at_ ?_ ?_ ?_ ?_)))
 all_goals first | (rintro w' hp_; obtain ⟨⟨⟨⟨⟨⟨⟨⟨⟨⟨⟨⟨-, -⟩, ⟨s0, s1⟩⟩, -⟩, ⟨s2, s3, s4, s5⟩⟩, -⟩, -⟩, -⟩, -⟩, -⟩, ⟨s6, s7⟩⟩, -⟩, -⟩ := hP _ hp_; go_simp; with_reducible rfl) | (intro w'; go_simp; with_reducible rfl) | (simp only [u6_]; rfl) | rfl | skip
 refine rcD 3 31 15 HT_ rfl rfl (by decide) (by kernel_rfl) Try.func29 (by kernel_rfl) rfl rfl #[.agg #[.slice A1_0 l1_0.length c1_0, .int .i64 a1_1, .int .i64 a1_2, .string a1_3]] (by rfl) (by (try simp only [List.map_toArray, List.map_cons, List.map_nil]); first | done | rfl) ?_
 refine (impl_copyAlarm.calls _ _ l1_0 a1_1 a1_2 a1_3 lx sx ex nx _ (Kd.C_below HR1_0.out (hP _ (GV.go HB.out).at_).1.1.1.1.1.1.1.1.1.1.1.1) Hc1_0.out F3.out).mono ?_
 rintro e w1 ⟨v31_0, rfl, ho31_0, hb⟩
 obtain ⟨A31_0, c31_0, rfl, _, _⟩ := Kd.R_reads ho31_0
 have hTop := (hP _ (GV.go HB.out).at_).2
 obtain ⟨loA31_0, hiA31_0, hOA31_0, hTA31_0, hSA31_0⟩ := newR (Nat.le_refl _) (hP _ (GV.go HB.out).at_).1.1.1.1.1.1.1.1.1.1.1.1 hb ho31_0
 have XA31_0 := Gs.ownR hSA31_0
 have OA31_0 := aM (And.intro (Nat.le_trans hTop hOA31_0.1) hOA31_0.2)
 (try clear HTI)
 have HTI := aM hTA31_0
 clear hTop
 have HB1 := aM (below_step HB.out hb); clear HB hb hOA31_0 hTA31_0 hSA31_0 ho31_0; have HB := HB1; clear HB1
 refine ⟨_, rfl, (GV.go HB.out).at_, ?_⟩; intro a' ha; simp only [u6_] at ha; subst ha
 have hr9 := (hP _ (GV.go HB.out).at_).1.1.1.1.2
 have h4 := (hP _ (GV.go HB.out).at_).1.1.1.1.1.1.2
 have h6 := (hP _ (GV.go HB.out).at_).1.2
 have hbw := (hP _ (GV.go HB.out).at_).1.1.1.1.1.1.1.1.1.1.1.1
 have hin9 := (Kd.S_R hr9).1
 have ne4 : some g4 ≠ (Value.slice A9_0 m0.length c9_0).ownBlock := fun h_ => by have q_ := hin9 g4 h_.symm; exact absurd q_ (by unfold Iv at *; have o0_ := Hg2.out; have o1_ := Hg3.out; have o2_ := Hg4.out; have o3_ := OA9_0.out; have o4_ := Hg6.out; have o5_ := OA31_0.out; omega)
 have ne6 : some g6 ≠ (Value.slice A9_0 m0.length c9_0).ownBlock := fun h_ => by have q_ := hin9 g6 h_.symm; exact absurd q_ (by unfold Iv at *; have o0_ := Hg2.out; have o1_ := Hg3.out; have o2_ := Hg4.out; have o3_ := OA9_0.out; have o4_ := Hg6.out; have o5_ := OA31_0.out; omega)
 refine one_ (i := 4) (N := some 32) (bz 8 31) rfl rfl (one_of HT_.out (by kernel_rfl)) (by decide) (fun K hK => ?_)
 refine value_ (w1 := ?_) (v := ?_) (by rfl) rfl ?_ ?_
 rotate_left 2
 · go_simp
   constructor
   · rfl
   · rfl
 refine hK.out _ _ (GV.go (below_step HB.out (below_alloc (Below.refl _ _) _))).at_ (fun _ => ?_)
 clear hK K
 refine norm_ (a' := ?_) ?_ ?_
 rotate_left
 · show Act.put _ (some 32) _ = _
   simp only [u6_]
   rfl
 refine last_ (i := 5) (N := some 33) (bz 8 63) rfl rfl (one_of HT_.out (by kernel_rfl)) (by decide) (fun K hK => ?_)
 refine Kd.S_append_step k29 (w0 := w) w.heap.size (by rfl) (.tmp 29) (.tmp 32) 24 29 (.agg #[(.slice none 0 0), (.int .i64 0), (.int .i64 0), (.string ⟨#[]⟩)]) 56 rfl Try.underlying24 info29 rfl (by decide) (by omega) (.slice A9_0 m0.length c9_0) m0 (⟨lx, sx, ex, nx⟩ : S29) [.slice A31_0 lx.length c31_0, .int .i64 sx, .int .i64 ex, .string nx] (fun k_ => k_ ≠ g4 ∧ k_ ≠ g6) (Iv loA31_0 hiA31_0) rfl rfl ?aP ?aQ ?aF ?aO ?aB ?aS ?aL ?_
 case aP => exact k29_mkM _ _ _ (⟨lx, sx, ex, nx⟩ : S29) (v0 := .slice A31_0 lx.length c31_0) XA31_0.at_
 case aQ => exact fun k_ h_ => ⟨(by unfold Iv at *; have o0_ := Hg2.out; have o1_ := Hg3.out; have o2_ := Hg4.out; have o3_ := OA9_0.out; have o4_ := Hg6.out; have o5_ := OA31_0.out; constructor <;> omega), fun h2_ => by have q_ := hin9 k_ h2_.symm; unfold Iv at *; have o0_ := Hg2.out; have o1_ := Hg3.out; have o2_ := Hg4.out; have o3_ := OA9_0.out; have o4_ := Hg6.out; have o5_ := OA31_0.out; omega⟩
 case aF => exact fun k_ h_ => ⟨by have := blk_lt h4; omega, by have := blk_lt h6; omega⟩
 case aO => exact Kd.S_mono hr9 (fun k_ hk_ => (by unfold Iv at *; have o0_ := Hg2.out; have o1_ := Hg3.out; have o2_ := Hg4.out; have o3_ := OA9_0.out; have o4_ := Hg6.out; have o5_ := OA31_0.out; refine ⟨⟨?_, ?_⟩, ?_⟩ <;> omega))
 case aB => exact hbw
 case aS => exact hbw.size
 case aL => have := HL.out; omega
 intro v1 w2 ho hb hg hat
 obtain ⟨ml, hml⟩ : ∃ y_ : List S29, y_ = m0 ++ [(⟨lx, sx, ex, nx⟩ : S29)] := ⟨_, rfl⟩
 rw [← hml] at ho
 have NML := aM hml
 clear hml
 obtain ⟨An, cn, rfl⟩ := Kd.S_slice ho
 have H4 := aM ((hg.block g4 (blk_lt h4) ne4).trans h4)
 have H6 := aM ((hg.block g6 (blk_lt h6) ne6).trans h6)
 have HBW := aM hb
 have HO := aM ho
 refine hK.out _ _ ?_
 clear hK K ho hb hg hat hr9 h4 h6 hbw hin9 ne4 ne6 GV hP hQ HB
 refine norm_ (a' := ?_) ?_ ?_
 rotate_left
 · show Act.put _ (some 33) _ = _
   simp only [u6_]
   rfl
 refine (pu 6 (some 34) 127 ?_ ?_ HT_ ?_ ?_ ?_ ?_)
 all_goals first | (rintro w' hp_; obtain ⟨⟨⟨⟨⟨⟨⟨⟨⟨⟨⟨⟨-, -⟩, ⟨s0, s1⟩⟩, -⟩, ⟨s2, s3, s4, s5⟩⟩, -⟩, -⟩, -⟩, -⟩, -⟩, ⟨s6, s7⟩⟩, -⟩, -⟩ := hP _ hp_; go_simp; with_reducible rfl) | (intro w'; go_simp; with_reducible rfl) | (simp only [u6_]; rfl) | rfl | skip
 have z6_0 := cz2_0 H6
 have z6_1 := cz2_1 H6
 have y6_0 := blk_frozen H6.out 0
 have y6_1 := blk_frozen H6.out 1
 refine lsD 7 255 (w1 := ?w7_) HT_ rfl rfl (by decide) (by kernel_rfl) (by rfl) ?hr7_ ?_
 case hr7_ => go_simp; rfl
 clear z6_0 z6_1 y6_0 y6_1
 refine done_ (done_of HT_.out (by kernel_rfl)) ?_
 have n46_ : g4 ≠ g6 := (by unfold Iv at *; have o0_ := Hg2.out; have o1_ := Hg3.out; have o2_ := Hg4.out; have o3_ := OA9_0.out; have o4_ := Hg6.out; have o5_ := OA31_0.out; omega)
 have HG4 := aM (show w.heap.size ≤ g4 from (by unfold Iv at *; have o0_ := Hg2.out; have o1_ := Hg3.out; have o2_ := Hg4.out; have o3_ := OA9_0.out; have o4_ := Hg6.out; have o5_ := OA31_0.out; omega))
 have HG6 := aM (show w.heap.size ≤ g6 from (by unfold Iv at *; have o0_ := Hg2.out; have o1_ := Hg3.out; have o2_ := Hg4.out; have o3_ := OA9_0.out; have o4_ := Hg6.out; have o5_ := OA31_0.out; omega))
 have H41 := aM ((Below.heap_setCell w2 ⟨g6, 1, none⟩ (.slice An ml.length cn) g4 n46_).trans H4.out)
 have H61 := aM (blk_put H6.out 1 (.slice An ml.length cn) rfl)
 have HBW1 := aM (show Below w.heap.size w (w2.setCell ⟨g6, 1, none⟩ (.slice An ml.length cn)) from below_set HBW.out HG6.out)
 have HS1 := aM (show Kd.S k29 29 (w2.setCell ⟨g6, 1, none⟩ (.slice An ml.length cn)) w.heap.size (fun k_ => k_ ≠ g4) (.slice An ml.length cn) ml from Kd.S_mono (Kd.S_far HO.out (p := ⟨g6, 1, none⟩) (fun k_ h_ => h_.2) _) (fun k_ h_ => h_.1))
 clear H4 H6 HBW HO n46_
 generalize (w2.setCell ⟨g6, 1, none⟩ (.slice An ml.length cn)) = w9 at H41 H61 HBW1 HS1 ⊢
 have H4 := H41
 have H6 := H61
 have HBW := HBW1
 clear H41 H61 HBW1
 have z4_0 := cz2_0 H4
 have z4_1 := cz2_1 H4
 have y4_0 := blk_frozen H4.out 0
 have y4_1 := blk_frozen H4.out 1
 have z6_0 : w9.cell? ⟨g6, 0, none⟩ = some (.int .i64 fc) := (blk_cell H6.out 0).trans rfl
 have z6_1 : w9.cell? ⟨g6, 1, none⟩ = some (.slice An ml.length cn) := (blk_cell H6.out 1).trans rfl
 have n46 : g4 ≠ g6 := (by unfold Iv at *; have o0_ := Hg2.out; have o1_ := Hg3.out; have o2_ := Hg4.out; have o3_ := OA9_0.out; have o4_ := Hg6.out; have o5_ := OA31_0.out; omega)
 have n64 : g6 ≠ g4 := fun h_ => n46 h_.symm
 go_wp2
 refine bodyPost_ret (results_ct rfl _ _ g4 26 #[.int .i64 fc, .slice An ml.length cn] (0, 0) _ rfl (set2_blk H4.out) Try.underlying26 rfl (by kernel_rfl)) rfl ?_
 exact ⟨_, rfl, by rw [← NML.out]; exact Kd.S_mono (Kd.S_far (Kd.S_far HS1.out (p := ⟨g4, 0, none⟩) (fun _ h_ => h_) _) (p := ⟨g4, 1, none⟩) (fun _ h_ => h_) _) (fun _ _ => trivial), below_set (below_set HBW.out HG4.out) HG4.out⟩
theorem impl_PutChain.calls (k : Nat) (a0_0 : Int) (A0_1 : Option Addr) (c0_1 : Nat) (l0_1 : List S29) (A1_0 : Option Addr) (c1_0 : Nat) (l1_0 : List S76) (a1_1 : Int) (a1_2 : Int) (a1_3 : ByteArray) (r1 : Int) (r2 : List (S29)) (r3 : Bool) (w : World) (hr0_1 : Kd.C k29 w A0_1 l0_1.length l0_1) (hc0_1 : l0_1.length ≤ c0_1) (hr1_0 : Kd.C k76 w A1_0 l1_0.length l1_0) (hc1_0 : l1_0.length ≤ c1_0) (h : impl_PutChain.f k a0_0 l0_1 l1_0 a1_1 a1_2 a1_3 = some (r1, r2, r3)) :
    Calls Try.prog 6 #[.agg #[.int .i64 a0_0, .slice A0_1 l0_1.length c0_1], .agg #[.slice A1_0 l1_0.length c1_0, .int .i64 a1_1, .int .i64 a1_2, .string a1_3]] w fun e w' => ∃ v1_ : Value, e = .returned (.tuple #[.agg #[.int .i64 r1, v1_], .bool r3]) ∧ Kd.S k29 29 w' w.heap.size (fun _ => True) v1_ r2 ∧ Below w.heap.size w w' := by
  unfold impl_PutChain.f at h
  obtain ⟨⟨fc, m0⟩, h1, h⟩ := bs_ h
  obtain ⟨t, h2, h⟩ := bs_ h
  dsimp only at h1 h2 h
  by_cases c : t ≥ 0
  · rw [if_pos c] at h
    by_cases c2 : t < (l0_1.length : Int)
    · rw [if_pos (show 0 ≤ t from c), if_pos c2] at h
      obtain ⟨⟨lx, sx, ex, nx⟩, h3, h⟩ := bs_ h
      dsimp only at h3 h
      by_cases c3 : t < (m0.length : Int)
      · rw [if_pos c3] at h
        simp only [Option.some.injEq, Prod.mk.injEq] at h
        obtain ⟨rfl, rfl, rfl⟩ := h
        exact impl_PutChain.way1 k a0_0 _ _ l0_1 _ _ l1_0 a1_1 a1_2 a1_3 w hr0_1 hc0_1 hr1_0 hc1_0 fc m0 t lx sx ex nx ⟨h1⟩ ⟨h2⟩ ⟨h3⟩ ⟨decide_eq_true c⟩ ⟨c2⟩ ⟨c3⟩
      · rw [if_neg c3] at h; cases h
    · rw [if_pos (show 0 ≤ t from c), if_neg c2] at h; cases h
  · rw [if_neg c] at h
    obtain ⟨⟨lx, sx, ex, nx⟩, h3, h⟩ := bs_ h
    dsimp only at h3 h
    by_cases c3 : m0.length < 549755813888
    · rw [if_pos c3] at h
      simp only [Option.some.injEq, Prod.mk.injEq] at h
      obtain ⟨rfl, rfl, rfl⟩ := h
      exact impl_PutChain.way2 k a0_0 _ _ l0_1 _ _ l1_0 a1_1 a1_2 a1_3 w hr0_1 hc0_1 hr1_0 hc1_0 fc m0 t lx sx ex nx ⟨h1⟩ ⟨h2⟩ ⟨h3⟩ ⟨decide_eq_false c⟩ ⟨c3⟩
    · rw [if_neg c3] at h; cases h
/-! ### impl.DropOver: function 11 (by hand) -/
def impl_DropOver2.go (a1 : Int) : List (S29) → List (S29) → List (S29) → Option (List (S29) × List (S29))
  | [], out, gone => some (out, gone)
  | a :: r, out, gone => (impl_Over.f a.f0 a.f1 a.f2 a.f3 a1).bind fun b => (impl_copyAlarm.f a.f0 a.f1 a.f2 a.f3).bind fun c => if b = true then (if gone.length < 549755813888 then impl_DropOver2.go a1 r out (gone ++ [(⟨c.1, c.2.1, c.2.2.1, c.2.2.2⟩ : S29)]) else none) else (if out.length < 549755813888 then impl_DropOver2.go a1 r (out ++ [(⟨c.1, c.2.1, c.2.2.1, c.2.2.2⟩ : S29)]) gone else none)
def impl_DropOver2.f (k : Nat) (a0_0 : Int) (l0_1 : List (S29)) (a1 : Int) : Option (Int × List (S29) × List (S29)) := (impl_DropOver2.go a1 l0_1 [] []).bind fun p => some (a0_0, p.1, p.2)
theorem drop_at {α : Type} (z : α) (l : List α) (i : Nat) (h : i < l.length) : l.drop i = l.getD i z :: l.drop (i + 1) := by
  rw [List.drop_eq_getElem_cons h, List.getD_eq_getElem?_getD, List.getElem?_eq_getElem h]; rfl
def laws_DropOver_.T8 : Bool × List (List Nat × List Nat) := (true, [([], []), ([0], [0]), ([], []), ([2], [2]), ([3], [3]), ([1, 4, 3], [1, 4]), ([0, 1, 2, 3, 4, 5], []), ([6, 5, 5, 0, 1, 2, 3, 4, 5], [5, 6])])
def laws_DropOver_.B8 : List Nat := [0, 1, 0, 4, 12, 31, 63, 127]
theorem laws_DropOver_.tab8 : rtab .any (opsOf Try.f11 8) = laws_DropOver_.T8 := by kernel_rfl
theorem laws_DropOver_.bits8 : waitsOk laws_DropOver_.T8.2 laws_DropOver_.B8 = true := by kernel_rfl
set_option maxHeartbeats 16000000 in
set_option maxRecDepth 100000 in
theorem impl_DropOver2.calls (k : Nat) (a0_0 : Int) (A0_1 : Option Addr) (c0_1 : Nat) (l0_1 : List (S29)) (a1 : Int) (r1 : Int) (r2 : List (S29)) (r3 : List (S29)) (w : World) (hr0_1 : Kd.C k29 w A0_1 l0_1.length l0_1) (hc0_1 : l0_1.length ≤ c0_1) (h : impl_DropOver2.f k a0_0 l0_1 a1 = some (r1, r2, r3)) :
    Calls Try.prog 11 #[.agg #[.int .i64 a0_0, .slice A0_1 l0_1.length c0_1], .int .i64 a1] w fun e w' => ∃ (v1_ v2_ : Value) (P : Nat → Prop), e = .returned (.tuple #[.agg #[.int .i64 r1, v1_], v2_]) ∧ Kd.S k29 29 w' w.heap.size (fun k_ => P k_) v1_ r2 ∧ Kd.S k29 29 w' w.heap.size (fun k_ => ¬ P k_) v2_ r3 ∧ Below w.heap.size w w' := by
 obtain ⟨⟨o_, g_⟩, hx, h⟩ := bs_ h
 dsimp only at hx h
 simp only [Option.some.injEq, Prod.mk.injEq] at h
 obtain ⟨rfl, rfl, rfl⟩ := h
 have HX := aM (show impl_DropOver2.go a1 (l0_1.drop 0) [] [] = some (o_, g_) from hx)
 clear hx
 have Hc0_1 := aM hc0_1
 have HR0_1 := aM hr0_1
 have G := (Gs.below w).add (Gs.top (Nat.le_refl w.heap.size))
 clear hc0_1 hr0_1
 go_enter Try.func11, Try.ntmps11
 go_upto_region 1 with (first | (refine be_ 2 #[.int .i64 a0_0, .slice A0_1 l0_1.length c0_1] 26 ?_; intro g2 hg w2 hbox hb; have Hg2 := aM (show w.heap.size ≤ g2 from hg ▸ G.at_.2); have G1 := (((G.go hb).add (Gs.ofBox2 hbox)).add (Gs.top (Nat.succ_le_of_lt (blk_lt hbox)))); clear hb hbox hg G; have G := G1; clear G1) | (refine be_ 4 #[.int .i64 0, .slice none 0 0] 26 ?_; intro g4 hg w2 hbox hb; have Hg4 := aM (show g2 + 1 ≤ g4 from hg ▸ G.at_.2); have G1 := (((G.go hb).add (Gs.blk hbox)).add (Gs.top (Nat.succ_le_of_lt (blk_lt hbox)))); clear hb hbox hg G; have G := G1; clear G1))
 obtain ⟨zg2_0, zg2_1⟩ := G.at_.1.1.1.2
 go_upto_region 2 with (first | (refine be_ 6 #[.int .i64 0, .slice none 0 0] 26 ?_; intro g6 hg w2 hbox hb; have Hg6 := aM (show g4 + 1 ≤ g6 from hg ▸ G.at_.2); have HB_g6 := aM hb; have HE_g6 := aM hg; have BK_g6 := aM hbox; have zg6_0 := cz2_0 ⟨hbox⟩; have yg6_0 := blk_frozen hbox 0; have zg6_1 := cz2_1 ⟨hbox⟩; have yg6_1 := blk_frozen hbox 1; clear hb hbox hg))
 (try clear zg2_0)
 (try clear zg2_1)
 (try clear zg6_0)
 (try clear yg6_0)
 (try clear zg6_1)
 (try clear yg6_1)
 have G1 := ((Gs.put2 (.int .i64 a0_0) (.slice none 0 0) G HB_g6 HE_g6 BK_g6).add (Gs.blk (set2_blk BK_g6.out))).add (Gs.top (Nat.succ_le_of_lt (blk_lt (set2_blk BK_g6.out))))
 clear G; have G := G1; clear G1
 generalize ((w2.setCell ⟨g6, 0, none⟩ (.int .i64 a0_0)).setCell ⟨g6, 1, none⟩ (.slice none 0 0)) = w3 at G ⊢
 clear HB_g6 HE_g6 BK_g6
 go_upto_region 3 with (fail)
 obtain ⟨zg2_0, zg2_1⟩ := G.at_.1.1.1.1.1.1.2
 have H4 := aM G.at_.1.1.1.1.2
 have H6 := aM G.at_.1.2
 have HB := aM G.at_.1.1.1.1.1.1.1.1
 clear G
 have HG4 := aM (show w.heap.size ≤ g4 from by have a_ := Hg2.out; have b_ := Hg4.out; omega)
 have HG6 := aM (show w.heap.size ≤ g6 from by have a_ := Hg2.out; have b_ := Hg4.out; have c_ := Hg6.out; omega)
 have N46 := aM (show g4 ≠ g6 from by have a_ := Hg4.out; have b_ := Hg6.out; omega)
 obtain ⟨n0, hn0⟩ : ∃ n, n = l0_1.length := ⟨_, rfl⟩
 have HN0 := aM hn0
 have hmx : n0 ≤ 9223372036854775807 := by rw [hn0]; exact HR0_1.out.2.1
 clear hn0
 go_wp2
 try clear zg2_0 zg2_1
 go_loopg [7, 16] l0_1.length (fun kx v7 v16 w' => ∃ (i : Nat) (out gone : List S29) (Ao Ag : Option Addr) (co cg : Nat) (P : Nat → Prop), v7 = .slice Ag gone.length cg ∧ v16 = .int .i64 (i : Int) ∧ i ≤ l0_1.length ∧ l0_1.length - i ≤ kx ∧ Aside0 (impl_DropOver2.go a1 (l0_1.drop i) out gone = some (o_, g_)) ∧ Aside0 (w'.heap[g4]? = some (.cells #[.int .i64 0, .slice none 0 0] 26 (0, 0))) ∧ Aside0 (w'.heap[g6]? = some (.cells #[.int .i64 a0_0, .slice Ao out.length co] 26 (0, 0))) ∧ Aside0 (Kd.S k29 29 w' w.heap.size (fun k_ => P k_) (.slice Ao out.length co) out) ∧ Aside0 (Kd.S k29 29 w' w.heap.size (fun k_ => ¬ P k_) (.slice Ag gone.length cg) gone) ∧ Aside0 (Below w.heap.size w w'))
 case atStart => exact ⟨0, [], [], none, none, 0, 0, fun _ => True, rfl, rfl, Nat.zero_le _, Nat.le_refl _, HX, H4, H6, ⟨Kd.S_nil _ _ _ _ _⟩, ⟨Kd.S_nil _ _ _ _ _⟩, HB⟩
 case round =>
  clear HX H4 H6 HB
  obtain ⟨i, out, gone, Ao, Ag, co, cg, P, rfl, rfl, hin, hkx, HG, H4, H6, HO, HQ, HB⟩ := hrel
  by_cases hlt : i < l0_1.length
  · skip
    have hmx2 : l0_1.length ≤ 9223372036854775807 := HR0_1.out.2.1
    have H := HG.out
    rw [drop_at z29 l0_1 i hlt] at H
    simp only [impl_DropOver2.go] at H
    obtain ⟨b, hb0, H⟩ := bs_ H
    obtain ⟨⟨lx, sx, ex, nx⟩, hc0, H⟩ := bs_ H
    dsimp only at hb0 hc0 H
    have AB := aM (show impl_Over.f (rd_T29 l0_1 (i : Int)).f0 (rd_T29 l0_1 (i : Int)).f1 (rd_T29 l0_1 (i : Int)).f2 (rd_T29 l0_1 (i : Int)).f3 a1 = some b from hb0)
    have AC := aM (show impl_copyAlarm.f (rd_T29 l0_1 (i : Int)).f0 (rd_T29 l0_1 (i : Int)).f1 (rd_T29 l0_1 (i : Int)).f2 (rd_T29 l0_1 (i : Int)).f3 = some (lx, sx, ex, nx) from hc0)
    clear hb0 hc0 HG
    obtain ⟨ad, Aa, ca, rfl, hx0, hx1, hx2, hx3, hla, hCa⟩ := at_T29 HR0_1.out (i : Int) (by omega) (by omega)
    simp only [Int.toNat_natCast] at hx0 hx1 hx2 hx3
    replace hx0 := pw_cell_below HB.out hx0
    replace hx1 := pw_cell_below HB.out hx1
    replace hx2 := pw_cell_below HB.out hx2
    replace hx3 := pw_cell_below HB.out hx3
    have HCw := aM hCa
    have HCa := aM (show Kd.C k76 wr Aa (rd_T29 l0_1 (i : Int)).f0.length (rd_T29 l0_1 (i : Int)).f0 from Kd.C_below hCa HB.out)
    have HLa := aM (show (rd_T29 l0_1 (i : Int)).f0.length ≤ ca from hla)
    clear hCa hla
    have hltb : decide ((i : Int) < (l0_1.length : Int)) = true := decide_eq_true (by omega)
    have p0t : (0 ≤ (i : Int)) = True := eq_true (by omega)
    have q0t : ((i : Int) < (l0_1.length : Int)) = True := eq_true (by omega)
    have q1t : (i < l0_1.length) = True := eq_true hlt
    go_upto_region 6 with (first | (refine be_ 9 #[.slice none 0 0, .int .i64 0, .int .i64 0, .string (⟨#[]⟩ : ByteArray)] 29 ?_; intro g9 hg w2 hbox hb; have HE := aM hg; have HV := aM hb; have HBK := aM hbox; have q0 := cz4_0 HBK; have q1 := cz4_1 HBK; have q2 := cz4_2 HBK; have q3 := cz4_3 HBK; have y0 := blk_frozen hbox 0; have y1 := blk_frozen hbox 1; have y2 := blk_frozen hbox 2; have y3 := blk_frozen hbox 3; clear hg hb hbox hx0 hx1 hx2 hx3))
    have hE := set4_below (b0 := (.slice Aa (rd_T29 l0_1 (i : Int)).f0.length ca)) (b1 := (.int .i64 (rd_T29 l0_1 (i : Int)).f1)) (b2 := (.int .i64 (rd_T29 l0_1 (i : Int)).f2)) (b3 := (.string (rd_T29 l0_1 (i : Int)).f3)) HV.out (Nat.le_of_eq HE.out.symm)
    have B9 := aM (set4_blk (b0 := (.slice Aa (rd_T29 l0_1 (i : Int)).f0.length ca)) (b1 := (.int .i64 (rd_T29 l0_1 (i : Int)).f1)) (b2 := (.int .i64 (rd_T29 l0_1 (i : Int)).f2)) (b3 := (.string (rd_T29 l0_1 (i : Int)).f3)) HBK.out)
    have HO1 := aM (Kd.S_below HO.out hE)
    have HQ1 := aM (Kd.S_below HQ.out hE)
    have H41 := aM (blk_below H4.out hE)
    have H61 := aM (blk_below H6.out hE)
    have HC1 := aM (Kd.C_below HCa.out hE)
    have HB1 := aM (below_step HB.out hE)
    clear hE HE HV HBK q0 q1 q2 q3 y0 y1 y2 y3 HO HQ H4 H6 HCa HB
    generalize ((((w2.setCell ⟨g9, 0, none⟩ (.slice Aa (rd_T29 l0_1 (i : Int)).f0.length ca)).setCell ⟨g9, 1, none⟩ (.int .i64 (rd_T29 l0_1 (i : Int)).f1)).setCell ⟨g9, 2, none⟩ (.int .i64 (rd_T29 l0_1 (i : Int)).f2)).setCell ⟨g9, 3, none⟩ (.string (rd_T29 l0_1 (i : Int)).f3)) = w3 at B9 HO1 HQ1 H41 H61 HC1 HB1 ⊢
    have z0 : w3.cell? ⟨g9, 0, none⟩ = some (.slice Aa (rd_T29 l0_1 (i : Int)).f0.length ca) := (blk_cell B9.out 0).trans rfl
    have z1 : w3.cell? ⟨g9, 1, none⟩ = some (.int .i64 (rd_T29 l0_1 (i : Int)).f1) := (blk_cell B9.out 1).trans rfl
    have z2 : w3.cell? ⟨g9, 2, none⟩ = some (.int .i64 (rd_T29 l0_1 (i : Int)).f2) := (blk_cell B9.out 2).trans rfl
    have z3 : w3.cell? ⟨g9, 3, none⟩ = some (.string (rd_T29 l0_1 (i : Int)).f3) := (blk_cell B9.out 3).trans rfl
    cases b with
    | true =>
     rw [if_pos rfl] at H
     by_cases hN : gone.length < 549755813888
     · skip
       rw [if_pos hN] at H
       have H' := aM H
       have LM := aM hN
       clear H hN
       go_upto_region 7 with (first | (refine gl_ (some 22) Try.func34 #[.agg #[.slice Aa (rd_T29 l0_1 (i : Int)).f0.length ca, .int .i64 (rd_T29 l0_1 (i : Int)).f1, .int .i64 (rd_T29 l0_1 (i : Int)).f2, .string (rd_T29 l0_1 (i : Int)).f3], .int .i64 a1] ?_; refine (impl_Over.calls _ _ (rd_T29 l0_1 (i : Int)).f0 (rd_T29 l0_1 (i : Int)).f1 (rd_T29 l0_1 (i : Int)).f2 (rd_T29 l0_1 (i : Int)).f3 a1 true _ HC1.out HLa.out AB.out).mono ?_; rintro e w4 ⟨rfl, hb⟩; refine ⟨_, rfl, ?_⟩; have hd := hb; have HO2 := aM (Kd.S_below HO1.out hd); have HQ2 := aM (Kd.S_below HQ1.out hd); have H42 := aM (blk_below H41.out hd); have H62 := aM (blk_below H61.out hd); have HC2 := aM (Kd.C_below HC1.out hd); have HB2 := aM (below_step HB1.out hd); have B92 := aM (blk_below B9.out hd); clear hb hd HO1 HQ1 H41 H61 HC1 HB1 B9 z0 z1 z2 z3))
       have z0 : w4.cell? ⟨g9, 0, none⟩ = some (.slice Aa (rd_T29 l0_1 (i : Int)).f0.length ca) := (blk_cell B92.out 0).trans rfl
       have z1 : w4.cell? ⟨g9, 1, none⟩ = some (.int .i64 (rd_T29 l0_1 (i : Int)).f1) := (blk_cell B92.out 1).trans rfl
       have z2 : w4.cell? ⟨g9, 2, none⟩ = some (.int .i64 (rd_T29 l0_1 (i : Int)).f2) := (blk_cell B92.out 2).trans rfl
       have z3 : w4.cell? ⟨g9, 3, none⟩ = some (.string (rd_T29 l0_1 (i : Int)).f3) := (blk_cell B92.out 3).trans rfl
       go_wp2_with (first | (refine gl_ (some 25) Try.func29 #[.agg #[.slice Aa (rd_T29 l0_1 (i : Int)).f0.length ca, .int .i64 (rd_T29 l0_1 (i : Int)).f1, .int .i64 (rd_T29 l0_1 (i : Int)).f2, .string (rd_T29 l0_1 (i : Int)).f3]] ?_; refine (impl_copyAlarm.calls _ _ (rd_T29 l0_1 (i : Int)).f0 (rd_T29 l0_1 (i : Int)).f1 (rd_T29 l0_1 (i : Int)).f2 (rd_T29 l0_1 (i : Int)).f3 lx sx ex nx _ HC2.out HLa.out AC.out).mono ?_; rintro e w5 ⟨v5_, rfl, ho, hb⟩; obtain ⟨An, cn, rfl, _, _⟩ := Kd.R_reads ho; refine ⟨_, rfl, ?_⟩; have HO3 := aM (Kd.S_bound HO2.out); have HQ3 := aM (Kd.S_bound HQ2.out); have HSZ := aM hb.size; have HO4 := aM (Kd.S_below HO3.out hb); have HQ4 := aM (Kd.S_below HQ3.out hb); have HX := aM (Kd.R_lower (Kd.R_bound ho) HB2.out.size); have H43 := aM (blk_below H42.out hb); have H63 := aM (blk_below H62.out hb); have HB3 := aM (below_step HB2.out hb); clear ho hb HO2 HQ2 HO3 HQ3 H42 H62 HC2 HB2 B92 z0 z1 z2 z3) | ((with_reducible refine gate_builtin (b := .append) (xs := #[.tmp 23, .tmp 26]) rfl ?_); at_builtin; refine Kd.S_append k29 (w0 := w) w.heap.size rfl (.tmp 23) (.tmp 26) 24 29 (.agg #[(.slice none 0 0), (.int .i64 0), (.int .i64 0), (.string ⟨#[]⟩)]) 56 rfl Try.underlying24 info29 rfl (by decide) (by omega) (.slice Ag gone.length cg) gone (⟨lx, sx, ex, nx⟩ : S29) [.slice An lx.length cn, .int .i64 sx, .int .i64 ex, .string nx] (fun k_ => ¬ (P k_ ∧ k_ < w4.heap.size)) (fun k_ => w4.heap.size ≤ k_) rfl rfl ?aP ?aQ ?aF ?aO HB3.out HB3.out.size ?aL ?_; (case aP => exact k29_mkM _ _ _ (⟨lx, sx, ex, nx⟩ : S29) (v0 := .slice An lx.length cn) (Kd.R_mono HX.out (fun k_ h_ => h_.2.1))); (case aQ => exact fun k_ hk_ => ⟨fun h_ => absurd h_.2 (by omega), fun e_ => by have q_ := (Kd.S_R HQ4.out).1 k_ e_.symm; have := q_.2.2.1; omega⟩); (case aF => exact fun k_ hk_ h_ => by have := HSZ.out; omega); (case aO => exact Kd.S_mono HQ4.out (fun k_ hk_ => ⟨fun h_ => hk_.1 h_.1, by have := hk_.2.2.1; omega⟩)); (case aL => have := LM.out; omega); intro v39 w6 ho hb hg hat; have hOO := (Kd.S_R HO4.out).1; have HQ6 := aM ho; have HB6 := aM hb; have HO6 := aM (Kd.S_grown (Kd.S_mono HO4.out (fun k_ hk_ => (⟨⟨hk_.1, hk_.2.2.1⟩, fun e_ => ((Kd.S_R HQ4.out).1 k_ e_.symm).1 hk_.1⟩ : (P k_ ∧ k_ < w4.heap.size) ∧ some k_ ≠ (Value.slice Ag gone.length cg).ownBlock))) hg (fun k_ h_ => h_.2)); have H46 := aM ((hg.block g4 (blk_lt H43.out) (Kd.S_ne HQ4.out H43.out (by decide))).trans H43.out); have H66 := aM ((hg.block g6 (blk_lt H63.out) (Kd.S_ne HQ4.out H63.out (by decide))).trans H63.out); clear ho hb hg hat hOO))
       obtain ⟨A6, c6, e6⟩ := Kd.S_slice HQ6.out
       subst e6
       go_roundg (l0_1.length - (i + 1))
       case measure => omega
       case rel => exact ⟨i + 1, out, gone ++ [(⟨lx, sx, ex, nx⟩ : S29)], Ao, A6, co, c6, fun k_ => P k_ ∧ k_ < w4.heap.size, rfl, by go_num, by omega, Nat.le_refl _, H', H46, H66, ⟨Kd.S_mono HO6.out (fun k_ h_ => h_.1)⟩, HQ6, HB6⟩
     · rw [if_neg hN] at H; cases H
    | false =>
     rw [if_neg (by decide)] at H
     by_cases hN : out.length < 549755813888
     · skip
       rw [if_pos hN] at H
       have H' := aM H
       have LM := aM hN
       clear H hN
       go_upto_region 8 with (first | (refine gl_ (some 22) Try.func34 #[.agg #[.slice Aa (rd_T29 l0_1 (i : Int)).f0.length ca, .int .i64 (rd_T29 l0_1 (i : Int)).f1, .int .i64 (rd_T29 l0_1 (i : Int)).f2, .string (rd_T29 l0_1 (i : Int)).f3], .int .i64 a1] ?_; refine (impl_Over.calls _ _ (rd_T29 l0_1 (i : Int)).f0 (rd_T29 l0_1 (i : Int)).f1 (rd_T29 l0_1 (i : Int)).f2 (rd_T29 l0_1 (i : Int)).f3 a1 false _ HC1.out HLa.out AB.out).mono ?_; rintro e w4 ⟨rfl, hb⟩; refine ⟨_, rfl, ?_⟩; have hd := hb; have HO2 := aM (Kd.S_below HO1.out hd); have HQ2 := aM (Kd.S_below HQ1.out hd); have H42 := aM (blk_below H41.out hd); have H62 := aM (blk_below H61.out hd); have HC2 := aM (Kd.C_below HC1.out hd); have HB2 := aM (below_step HB1.out hd); have B92 := aM (blk_below B9.out hd); clear hb hd HO1 HQ1 H41 H61 HC1 HB1 B9 z0 z1 z2 z3))
       have HO3 := aM (Kd.S_bound HO2.out)
       have HQ3 := aM (Kd.S_bound HQ2.out)
       have G := ((((Gs.bel HB2.out).add (Gs.top (Nat.le_refl w4.heap.size))).add (Gs.ofBox4 B92.out)).add (Gs.ofBox2 H62.out))
       clear HO2 HQ2 HC2 B92 HB2
       have Hca := HLa
       refine Gs.hide G (fun Ψ GP hP hQ_ => ?_)
       clear G
       refine regD [5, 7] GP (by kernel_rfl) rfl laws_DropOver_.tab8 laws_DropOver_.bits8 (fun wr hbr GV HT_ HW_ => ?_)
       have HO4 := aM (Kd.S_below HO3.out hbr)
       have HQ4 := aM (Kd.S_below HQ3.out hbr)
       have H43 := aM (blk_below H42.out hbr)
       have H63 := aM (blk_below H62.out hbr)
       clear GP hbr HO3 HQ3 H42 H62
       have HB := aM (Below.refl wr.heap.size wr)
       refine (pu 0 (some 28) 1 ?_ ?_ HT_ ?_ ?_ ?_ (tk 1 (some 29) 3 ?_ ?_ HT_ HW_ (GV.go HB.out).at_ ?_ ?_ ?_ (tk 2 (some 30) 7 ?_ ?_ HT_ HW_ (GV.go HB.out).at_ ?_ ?_ ?_ ?_)))
       all_goals first | (rintro w' hp_; obtain ⟨⟨⟨-, -⟩, ⟨s0, s1, s2, s3⟩⟩, ⟨s4, s5⟩⟩ := hP _ hp_; go_simp; with_reducible rfl) | (intro w'; go_simp; with_reducible rfl) | (simp only [u6_]; rfl) | rfl | skip
       refine rcD 3 31 15 HT_ rfl rfl (by decide) (by kernel_rfl) Try.func29 (by kernel_rfl) rfl rfl #[.agg #[.slice Aa (rd_T29 l0_1 (i : Int)).f0.length ca, .int .i64 ((rd_T29 l0_1 (i : Int)).f1), .int .i64 ((rd_T29 l0_1 (i : Int)).f2), .string ((rd_T29 l0_1 (i : Int)).f3)]] (by rfl) (by (try simp only [List.map_toArray, List.map_cons, List.map_nil]); first | done | rfl) ?_
       refine (impl_copyAlarm.calls _ _ ((rd_T29 l0_1 (i : Int)).f0) ((rd_T29 l0_1 (i : Int)).f1) ((rd_T29 l0_1 (i : Int)).f2) ((rd_T29 l0_1 (i : Int)).f3) lx sx ex nx _ (Kd.C_below HCw.out (hP _ (GV.go HB.out).at_).1.1.1) Hca.out AC.out).mono ?_
       rintro e w1 ⟨v31_0, rfl, ho31_0, hb⟩
       obtain ⟨A31_0, c31_0, rfl, _, _⟩ := Kd.R_reads ho31_0
       have hTop := (hP _ (GV.go HB.out).at_).1.1.2
       obtain ⟨loA31_0, hiA31_0, hOA31_0, hTA31_0, hSA31_0⟩ := newR (Nat.le_refl _) (hP _ (GV.go HB.out).at_).1.1.1 hb ho31_0
       have XA31_0 := Gs.ownR hSA31_0
       have OA31_0 := aM (And.intro (Nat.le_trans hTop hOA31_0.1) hOA31_0.2)
       (try clear HTI)
       have HTI := aM hTA31_0
       clear hTop
       have HB1 := aM (below_step HB.out hb); clear HB hb hOA31_0 hTA31_0 hSA31_0 ho31_0; have HB := HB1; clear HB1
       refine ⟨_, rfl, (GV.go HB.out).at_, ?_⟩; intro a' ha; simp only [u6_] at ha; subst ha
       have hr := Kd.S_below HO4.out HB.out
       have hq := Kd.S_below HQ4.out HB.out
       have h4 := blk_below H43.out HB.out
       have h6 := blk_below H63.out HB.out
       have hbw := (hP _ (GV.go HB.out).at_).1.1.1
       have htp := (hP _ (GV.go HB.out).at_).1.1.2
       have hin := (Kd.S_R hr).1
       have hOX := OA31_0.out
       refine one_ (i := 4) (N := some 32) (bz 8 31) rfl rfl (one_of HT_.out (by kernel_rfl)) (by decide) (fun K hK => ?_)
       refine value_ (w1 := ?_) (v := ?_) (by rfl) rfl ?_ ?_
       rotate_left 2
       · go_simp
         constructor
         · rfl
         · rfl
       refine hK.out _ _ (GV.go (below_step HB.out (below_alloc (Below.refl _ _) _))).at_ (fun _ => ?_)
       clear hK K
       refine norm_ (a' := ?_) ?_ ?_
       rotate_left
       · show Act.put _ (some 32) _ = _
         simp only [u6_]
         rfl
       refine last_ (i := 5) (N := some 33) (bz 8 63) rfl rfl (one_of HT_.out (by kernel_rfl)) (by decide) (fun K hK => ?_)
       refine Kd.S_append_step k29 (w0 := w) w.heap.size (by rfl) (.tmp 29) (.tmp 32) 24 29 (.agg #[(.slice none 0 0), (.int .i64 0), (.int .i64 0), (.string ⟨#[]⟩)]) 56 rfl Try.underlying24 info29 rfl (by decide) (by omega) (.slice Ao out.length co) out (⟨lx, sx, ex, nx⟩ : S29) [.slice A31_0 lx.length c31_0, .int .i64 sx, .int .i64 ex, .string nx] (fun k_ => P k_ ∨ w4.heap.size ≤ k_) (Iv loA31_0 hiA31_0) rfl rfl ?aP ?aQ ?aF ?aO ?aB ?aS ?aL ?_
       case aP => exact k29_mkM _ _ _ (⟨lx, sx, ex, nx⟩ : S29) (v0 := .slice A31_0 lx.length c31_0) XA31_0.at_
       case aQ => exact fun k_ h_ => ⟨Or.inr (by unfold Iv at h_; omega), fun h2_ => by have q_ := (hin k_ h2_.symm).2.2.1; unfold Iv at h_; omega⟩
       case aF => exact fun k_ h_ => Or.inr (Nat.le_trans htp h_)
       case aO => exact Kd.S_mono hr (fun k_ hk_ => ⟨Or.inl hk_.1, fun h_ => by have q_ := hk_.2.2.1; unfold Iv at h_; omega⟩)
       case aB => exact hbw
       case aS => exact hbw.size
       case aL => have := LM.out; omega
       intro v1 w2 ho hb hg hat
       obtain ⟨ml, hml⟩ : ∃ y_ : List S29, y_ = out ++ [(⟨lx, sx, ex, nx⟩ : S29)] := ⟨_, rfl⟩
       rw [← hml] at ho
       have NML := aM hml
       clear hml
       obtain ⟨An, cn, rfl⟩ := Kd.S_slice ho
       have H44 := aM ((hg.block g4 (blk_lt h4) (Kd.S_ne hr h4 (by decide))).trans h4)
       have H64 := aM ((hg.block g6 (blk_lt h6) (Kd.S_ne hr h6 (by decide))).trans h6)
       have HB5 := aM hb
       have HO5 := aM ho
       have HQ5 := aM (Kd.S_grown (Kd.S_mono hq (fun k_ hk_ => (⟨⟨hk_.1, hk_.2.2.1⟩, fun e_ => hk_.1 (hin k_ e_.symm).1⟩ : (¬ P k_ ∧ k_ < w4.heap.size) ∧ some k_ ≠ (Value.slice Ao out.length co).ownBlock))) hg (fun k_ h_ => h_.2))
       refine hK.out _ _ ?_
       clear hK K ho hb hg hat hr hq h4 h6 hbw htp hin hOX GV hP hQ_ HB
       refine norm_ (a' := ?_) ?_ ?_
       rotate_left
       · show Act.put _ (some 33) _ = _
         simp only [u6_]
         rfl
       refine (pu 6 (some 34) 127 ?_ ?_ HT_ ?_ ?_ ?_ ?_)
       all_goals first | (rintro w' hp_; obtain ⟨⟨⟨-, -⟩, ⟨s0, s1, s2, s3⟩⟩, ⟨s4, s5⟩⟩ := hP _ hp_; go_simp; with_reducible rfl) | (intro w'; go_simp; with_reducible rfl) | (simp only [u6_]; rfl) | rfl | skip
       have z6_0 := cz2_0 H64
       have z6_1 := cz2_1 H64
       have y6_0 := blk_frozen H64.out 0
       have y6_1 := blk_frozen H64.out 1
       refine lsD 7 255 (w1 := ?w7_) HT_ rfl rfl (by decide) (by kernel_rfl) (by rfl) ?hr7_ ?_
       case hr7_ => go_simp; rfl
       clear z6_0 z6_1 y6_0 y6_1
       refine done_ (done_of HT_.out (by kernel_rfl)) ?_
       have H45 := aM ((Below.heap_setCell w2 ⟨g6, 1, none⟩ (.slice An ml.length cn) g4 N46.out).trans H44.out)
       have H65 := aM (show (w2.setCell ⟨g6, 1, none⟩ (.slice An ml.length cn)).heap[g6]? = some (.cells #[.int .i64 a0_0, .slice An ml.length cn] 26 (0, 0)) from blk_put H64.out 1 (.slice An ml.length cn) rfl)
       have HB6 := aM (show Below w.heap.size w (w2.setCell ⟨g6, 1, none⟩ (.slice An ml.length cn)) from below_set HB5.out HG6.out)
       have HO6 := aM (show Kd.S k29 29 (w2.setCell ⟨g6, 1, none⟩ (.slice An ml.length cn)) w.heap.size (fun k_ => P k_ ∨ w4.heap.size ≤ k_) (.slice An ml.length cn) ml from Kd.S_set HO5.out H64.out (by decide) 1 _)
       have HQ6 := aM (show Kd.S k29 29 (w2.setCell ⟨g6, 1, none⟩ (.slice An ml.length cn)) w.heap.size (fun k_ => (¬ P k_ ∧ k_ < w4.heap.size) ∧ some k_ ≠ (Value.slice Ao out.length co).ownBlock) (.slice Ag gone.length cg) gone from Kd.S_set HQ5.out H64.out (by decide) 1 _)
       clear H44 H64 HB5 HO5 HQ5
       generalize (w2.setCell ⟨g6, 1, none⟩ (.slice An ml.length cn)) = w9 at H45 H65 HB6 HO6 HQ6 ⊢
       go_wp2
       go_roundg (l0_1.length - (i + 1))
       case measure => omega
       case rel => exact ⟨i + 1, ml, gone, An, Ag, cn, cg, fun k_ => P k_ ∨ w4.heap.size ≤ k_, rfl, by go_num, by omega, Nat.le_refl _, ⟨by rw [NML.out]; exact H'.out⟩, H45, H65, HO6, ⟨Kd.S_mono HQ6.out (fun k_ h_ h2_ => h2_.elim h_.1.1 (fun h3_ => by have := h_.1.2; omega))⟩, HB6⟩
     · rw [if_neg hN] at H; cases H
  · skip
    have hltb : decide ((i : Int) < (l0_1.length : Int)) = false := decide_eq_false (by omega)
    have H := HG.out
    rw [List.drop_eq_nil_of_le (by omega)] at H
    simp only [impl_DropOver2.go, Option.some.injEq, Prod.mk.injEq] at H
    obtain ⟨rfl, rfl⟩ := H
    clear HG
    have z4_0 := cz2_0 H4
    have z4_1 := cz2_1 H4
    have y4_0 := blk_frozen H4.out 0
    have y4_1 := blk_frozen H4.out 1
    have z6_0 := cz2_0 H6
    have z6_1 := cz2_1 H6
    have n46 := N46.out
    have n64 : g6 ≠ g4 := fun h_ => n46 h_.symm
    go_wp2
    refine bodyPost_ret (results_ct rfl _ _ g4 26 #[.int .i64 a0_0, .slice Ao out.length co] (0, 0) _ rfl (set2_blk H4.out) Try.underlying26 rfl (by kernel_rfl)) rfl ?_
    exact ⟨_, _, P, rfl, Kd.S_set (Kd.S_set HO.out H4.out (by decide) 0 _) (blk_put H4.out 0 _ rfl) (by decide) 1 _, Kd.S_set (Kd.S_set HQ.out H4.out (by decide) 0 _) (blk_put H4.out 0 _ rfl) (by decide) 1 _, below_set (below_set HB.out HG4.out) HG4.out⟩
def impl_DropOver4.f (k : Nat) (a0_0 : Int) (l0_1 : List (S29)) (a1 : Int) : Option (Int × (List (S29)) × (List (S29))) := impl_DropOver2.f k a0_0 l0_1 a1
theorem impl_DropOver4.calls (k : Nat) (a0_0 : Int) (A0_1 : Option Addr) (c0_1 : Nat) (l0_1 : List (S29)) (a1 : Int) (r1 : Int) (r2 : List (S29)) (r3 : List (S29)) (w : World) (hr0_1 : Kd.C k29 w A0_1 l0_1.length l0_1) (hc0_1 : l0_1.length ≤ c0_1) (h : impl_DropOver4.f k a0_0 l0_1 a1 = some (r1, r2, r3)) :
    Calls Try.prog 11 #[.agg #[.int .i64 a0_0, .slice A0_1 l0_1.length c0_1], .int .i64 a1] w fun e w' => ∃ v1_ v2_ : Value, e = .returned (.tuple #[.agg #[.int .i64 r1, v1_], v2_]) ∧ Kd.S k29 29 w' w.heap.size (fun _ => True) v1_ r2 ∧ Kd.S k29 29 w' w.heap.size (fun _ => True) v2_ r3 ∧ Below w.heap.size w w' := by
  exact (impl_DropOver2.calls k a0_0 A0_1 c0_1 l0_1 a1 r1 r2 r3 w hr0_1 hc0_1 h).mono (fun _ _ ⟨v1, v2, _, e, h1, h2, hb⟩ => ⟨v1, v2, e, Kd.S_mono h1 (fun _ _ => trivial), Kd.S_mono h2 (fun _ _ => trivial), hb⟩)
/-! ### spec_DrawInChain: function 13 (by hand) -/
def spec_DrawInChain.f (k : Nat) (l0 : List Int) : Option (Int × (List (S29)) × (List (S76))) :=
  (spec_l1New.f k l0).bind fun b0 => (spec_l6Any.f k b0.1 b0.2.1 b0.2.2).bind fun b1 => if b1.2.1.length = 0 then ((spec_l2Draw.f k b0.1 b1.2.2.1 b1.2.2.2).bind fun b2 => some (b1.1, b1.2.1, b2.1)) else (spec_l1Once.f b0.1 b1.2.2.1 b1.2.2.2 2).bind fun b2 => if b2.1 = true then ((spec_l1Below.f b0.1 b2.2.1 b2.2.2 (b1.2.1.length : Int)).bind fun b3 => if 0 ≤ b3.1 ∧ b3.1 < (b1.2.1.length : Int) ∧ (rd_T29 b1.2.1 b3.1).f0.length < 4398046511104 then some (b1.1, b1.2.1, (rd_T29 b1.2.1 b3.1).f0) else none) else ((spec_l2Draw.f k b0.1 b2.2.1 b2.2.2).bind fun b3 => some (b1.1, b1.2.1, b3.1))
theorem spec_DrawInChain.calls (k : Nat) (A0 : Option Addr) (c0 : Nat) (l0 : List Int) (r1 : Int) (r2 : List (S29)) (r3 : List (S76)) (w : World) (hr0 : Kd.C (Kd.int .u8) w A0 l0.length l0) (hc0 : l0.length ≤ c0) (h : spec_DrawInChain.f k l0 = some (r1, r2, r3)) :
    Calls Try.prog 13 #[.slice A0 l0.length c0] w fun e w' => ∃ v1_ v2_ : Value, e = .returned (.tuple #[.agg #[.int .i64 r1, v1_], v2_]) ∧ Kd.S k29 29 w' w.heap.size (fun _ => True) v1_ r2 ∧ Kd.R k76 76 w' w.heap.size (fun _ => True) v2_ r3 ∧ Below w.heap.size w w' := by
  have hu26 := Try.underlying26
  have HR0 := aM hr0
  have HC0 := aM hc0
  clear hr0 hc0
  unfold spec_DrawInChain.f at h
  have HB := aM (Below.refl w.heap.size w)
  obtain ⟨⟨b, j0, s0⟩, A20, H0⟩ := bs_ h
  obtain ⟨⟨fg, xs, j1, s1⟩, A30, H⟩ := bs_ H0
  dsimp only at A30 H
  have A2 := aM A20
  have A3 := aM A30
  have HH := aM H
  clear h H H0 A20 A30
  go_enter Try.func13, Try.ntmps13
  go_upto_region 3 with (first | (refine be_ 2 #[.int .i64 0, .slice none 0 0] 26 ?_; intro g2 hg w5 hbox hb; have BK2 := aM (hbox); have GE2 := gw hg (bw HB); replace HB := aM (below_step (bw HB) hb); clear hb hbox hg) | (refine gl_ (some 7) Try.func23 #[.slice A0 l0.length c0] ?_; (with_reducible refine (spec_l1New.calls k _ _ l0 b j0 s0 w _ ?side1 ?side2 ?side3 A2.out).mono ?_); (case side1 => exact bw HB); (case side2 => exact HR0.out); (case side3 => exact HC0.out); rintro e w6 ⟨gc, rfl, hi, hb, hb2⟩; refine ⟨_, rfl, ?_⟩; replace HB := aM (hb); have HI0 := aM (hi); have NBc_2 := aM (IsS67.ne_blk hi (blk_below (g := g2) (aB BK2) hb2) (by decide)); replace BK2 := aM (blk_below (g := g2) (aB BK2) hb2); clear hb hb2 hi) | (refine gl_ (some 9) Try.func24 #[.pointer (some ⟨gc, 0, none⟩)] ?_; (with_reducible refine (spec_l6Any.calls k gc b j0 s0 fg xs j1 s1 w _ ?side1 ?side2 A3.out).mono ?_); (case side1 => exact iw HI0); (case side2 => exact bw HB); rintro e w7 ⟨v1, rfl, ho0, hi, hb, hk⟩; refine ⟨_, rfl, ?_⟩; replace BK2 := aM (KeepBut.blk hk (g' := g2) (aB BK2) NBc_2.out.symm (by simp)); have HO := aM (Kd.S_lower ho0 (below_size (bw HB))); replace HB := aM (hb); replace HI0 := aM (hi); clear hb hk hi ho0) | (refine be_ 5 #[.int .i64 0, .slice none 0 0] 26 ?_; intro g5 hg w8 hbox hb; have E5 := aM hg; have V5 := aM hb; have K5 := aM hbox; clear hg hb hbox; obtain ⟨y0, y1⟩ := zc2 K5; have q0 := zf K5; obtain ⟨Ax, cx, ex⟩ := Kd.S_slice HO.out; subst ex))
  have hE := set2_below (b0 := (.int .i64 fg)) (b1 := (.slice Ax xs.length cx)) V5.out (Nat.le_of_eq E5.out.symm)
  have n3 := aM (set2_blk (b0 := (.int .i64 fg)) (b1 := (.slice Ax xs.length cx)) K5.out)
  have n0 := aM (Kd.S_below HO.out hE)
  have n1 := aM (IsS67.below HI0.out hE)
  have n2 := aM (blk_below BK2.out hE)
  have n4 := aM (below_step HB.out hE)
  have GE5 := gw E5.out HB.out
  have NB5_2 := aM (show g5 ≠ g2 from by rw [E5.out]; exact Nat.ne_of_gt (blk_lt BK2.out))
  have NBc_5 := aM (show gc ≠ g5 from by rw [E5.out]; exact Nat.ne_of_lt (IsS67.lt HI0.out))
  clear hE E5 V5 K5 HO HI0 BK2 HB y0 y1 q0
  have HO := n0
  have HI0 := n1
  have BK2 := n2
  have B5 := n3
  have HB := n4
  clear n0 n1 n2 n3 n4
  generalize ((w8.setCell ⟨g5, 0, none⟩ (.int .i64 fg)).setCell ⟨g5, 1, none⟩ (.slice Ax xs.length cx)) = wq at HO HI0 BK2 B5 HB ⊢
  obtain ⟨z0, z1⟩ := zc2 B5
  have H := HH.out
  clear HH
  by_cases c1 : xs.length = 0
  · rw [if_pos c1] at H
    obtain ⟨⟨q, j9, s9⟩, A40, H⟩ := bs_ H
    simp only [Option.some.injEq, Prod.mk.injEq] at H
    obtain ⟨rfl, rfl, rfl⟩ := H
    have A4 := aM A40
    clear A40
    have cb0 : decide (0 < (xs.length : Int)) = false := decide_eq_false (by omega)
    have cb1 : decide (0 < xs.length) = false := decide_eq_false (by omega)
    have cb2 : (0 < xs.length) = False := eq_false (by omega)
    clear c1
    go_wp2
    refine start_ (n := 5) (S := fun w' => w'.cell? ⟨g5, 0, none⟩ = some (.int .i64 fg) ∧ w'.cell? ⟨g5, 1, none⟩ = some (.slice Ax xs.length cx)) (ds := []) (bz 5 0) (by kernel_rfl) rfl (by kernel_rfl) ⟨(zc2 B5).1, (zc2 B5).2⟩ (fun hHeld => ?_)
    have n0 := aM (Kd.S_drew HO.out)
    have n1 := aM (IsS67.drew HI0.out)
    have n2 := aM (blk_drew BK2.out)
    have n3 := aM (blk_drew B5.out)
    have n4 := aM (below_drew1 HB.out)
    clear HO HI0 BK2 B5 HB
    have HO := n0
    have HI0 := n1
    have BK2 := n2
    have B5 := n3
    have HB := n4
    clear n0 n1 n2 n3 n4
    generalize wq.drew = wd at HO HI0 BK2 B5 HB hHeld ⊢
    refine tA_ 0 (some 31) (bz 5 1) ?_ ?_ hHeld ?_ ?_ ?_
    rotate_left
    · rintro w' ⟨s0, s1⟩
      go_simp
      with_reducible rfl
    rotate_left
    · simp only [u6_]
      rfl
    refine pA_ 1 (some 32) (bz 5 3) ?_ ?_ ?_ ?_ ?_
    rotate_left
    · intro w'
      go_simp
      with_reducible rfl
    rotate_left
    · simp only [u6_]
      rfl
    refine one_ (i := 2) (N := some 33) (bz 5 7) rfl rfl (by kernel_rfl) (by decide) (fun K hK => ?_)
    refine goes_ Try.func36 (by kernel_rfl) rfl #[.pointer (some ⟨gc, 0, none⟩)] (by rfl) rfl rfl mp ?_
    with_reducible refine (spec_l2Draw.calls k gc b j1 s1 q j9 s9 w _ ?side1 ?side2 A4.out).mono ?_
    (case side1 => exact HI0.out)
    (case side2 => exact HB.out)
    rintro e wS ⟨v2, rfl, ho0, hi, hb, hk⟩
    refine ⟨_, rfl, ?_⟩
    have HL := aM (Kd.R_lower ho0 HB.out.size)
    have n0 := aM (Kd.S_mono (Kd.S_keep (IsS67.apartS HI0.out HO.out (by decide)) hk (fun _ h => h.2)) (fun _ h => h.1))
    have n2 := aM (KeepBut.blk hk (g' := g2) BK2.out NBc_2.out.symm (by simp))
    have n3 := aM (KeepBut.blk hk (g' := g5) B5.out NBc_5.out.symm (by simp))
    clear HO HI0 BK2 B5 HB
    have HO := n0
    have BK2 := n2
    have B5 := n3
    have HB := aM hb
    clear n0 n2 n3 hi hb hk ho0
    obtain ⟨A9, c9, e9⟩ := Kd.R_slice HL.out
    subst e9
    refine hK.out _ _ ⟨(zc2 B5).1, (zc2 B5).2⟩ (fun hHeld => ?_)
    clear hK K
    refine norm_ (a' := ?_) ?_ ?_
    rotate_left
    · show Act.put _ (some 33) _ = _
      simp only [u6_]
      rfl
    refine one_ (i := 3) (N := none) (bz 5 15) rfl rfl (by kernel_rfl) (by decide) (fun K hK => ?_)
    obtain ⟨hs0, hs1⟩ := zc2 BK2
    have hfs := zf BK2
    have hns := NB5_2.out
    have hms := NB5_2.out.symm
    refine skip_ (w1 := ?_) (by rfl) rfl ?_ ?_
    rotate_left
    · go_simp
      rfl
    refine hK.out _ _ ⟨((cell_far (p := ⟨g2, _, none⟩) NB5_2.out _).trans (((cell_far (p := ⟨g2, _, none⟩) NB5_2.out _).trans (hHeld.1)))), ((cell_far (p := ⟨g2, _, none⟩) NB5_2.out _).trans (((cell_far (p := ⟨g2, _, none⟩) NB5_2.out _).trans (hHeld.2))))⟩ (fun hHeld => ?_)
    clear hK K
    refine pA_ 4 (some 3) (bz 5 31) ?_ ?_ ?_ ?_ ?_
    rotate_left
    · intro w'
      go_simp
      with_reducible rfl
    rotate_left
    · simp only [u6_]
      rfl
    refine done_ (by kernel_rfl) ?_
    try go_wp2
    refine bodyPost_ret (results_ct rfl _ _ g2 26 #[.int .i64 fg, .slice Ax xs.length cx] (0, 0) _ rfl (set2_blk BK2.out) Try.underlying26 rfl (by kernel_rfl)) rfl ?_
    exact ⟨_, _, rfl, Kd.S_mono (Kd.S_far (p := ⟨g2, 1, none⟩) (Kd.S_far (p := ⟨g2, 0, none⟩) (Kd.S_types HO.out BK2.out (by decide)) (fun _ hk => hk.2) (.int .i64 fg)) (fun _ hk => hk.2) (.slice Ax xs.length cx)) (fun _ hk => trivial), Kd.R_mono (Kd.R_far (p := ⟨g2, 1, none⟩) (Kd.R_far (p := ⟨g2, 0, none⟩) (Kd.R_types HL.out BK2.out (by decide)) (fun _ hk => hk.2) (.int .i64 fg)) (fun _ hk => hk.2) (.slice Ax xs.length cx)) (fun _ hk => trivial), set2_below HB.out GE2.out⟩
  · rw [if_neg c1] at H
    obtain ⟨⟨t, j2, s2⟩, A40, H0⟩ := bs_ H
    dsimp only at A40 H0
    have A4 := aM A40
    clear A40 H
    have cb0 : decide (0 < (xs.length : Int)) = true := decide_eq_true (by omega)
    have cb1 : decide (0 < xs.length) = true := decide_eq_true (by omega)
    have cb2 : (0 < xs.length) = True := eq_true (by omega)
    have C1 := aM c1
    have HH := aM H0
    clear c1 H0
    cases t with
    | false =>
      have H := HH.out
      rw [if_neg (show ¬ (false = true) by decide)] at H
      obtain ⟨⟨q, j9, s9⟩, A50, H⟩ := bs_ H
      simp only [Option.some.injEq, Prod.mk.injEq] at H
      obtain ⟨rfl, rfl, rfl⟩ := H
      have A5 := aM A50
      clear A50 HH
      go_wp2_with (fail)
      refine (spec_l1Once.calls gc b j1 s1 2 _ j2 s2 w _ HI0.out HB.out A4.out).mono ?_
      rintro e w9 ⟨rfl, hi, hb, hk⟩
      have n0 := aM (Kd.S_mono (Kd.S_keep (IsS67.apartS HI0.out HO.out (by decide)) hk (fun _ h => h.2)) (fun _ h => h.1)); have n2 := aM (KeepBut.blk hk (g' := g2) BK2.out NBc_2.out.symm (by simp)); have n3 := aM (KeepBut.blk hk (g' := g5) B5.out NBc_5.out.symm (by simp)); have n1 := aM hi; have n4 := aM hb; clear HO HI0 BK2 B5 HB hi hb hk z0 z1; have HO := n0; have HI0 := n1; have BK2 := n2; have B5 := n3; have HB := n4; clear n0 n1 n2 n3 n4; obtain ⟨z0, z1⟩ := zc2 B5
      go_wp2
      refine start_ (n := 5) (S := fun w' => w'.cell? ⟨g5, 0, none⟩ = some (.int .i64 fg) ∧ w'.cell? ⟨g5, 1, none⟩ = some (.slice Ax xs.length cx)) (ds := []) (bz 5 0) (by kernel_rfl) rfl (by kernel_rfl) ⟨(zc2 B5).1, (zc2 B5).2⟩ (fun hHeld => ?_)
      have n0 := aM (Kd.S_drew HO.out)
      have n1 := aM (IsS67.drew HI0.out)
      have n2 := aM (blk_drew BK2.out)
      have n3 := aM (blk_drew B5.out)
      have n4 := aM (below_drew1 HB.out)
      clear HO HI0 BK2 B5 HB
      have HO := n0
      have HI0 := n1
      have BK2 := n2
      have B5 := n3
      have HB := n4
      clear n0 n1 n2 n3 n4
      generalize w9.drew = wd at HO HI0 BK2 B5 HB hHeld ⊢
      refine tA_ 0 (some 31) (bz 5 1) ?_ ?_ hHeld ?_ ?_ ?_
      rotate_left
      · rintro w' ⟨s0, s1⟩
        go_simp
        with_reducible rfl
      rotate_left
      · simp only [u6_]
        rfl
      refine pA_ 1 (some 32) (bz 5 3) ?_ ?_ ?_ ?_ ?_
      rotate_left
      · intro w'
        go_simp
        with_reducible rfl
      rotate_left
      · simp only [u6_]
        rfl
      refine one_ (i := 2) (N := some 33) (bz 5 7) rfl rfl (by kernel_rfl) (by decide) (fun K hK => ?_)
      refine goes_ Try.func36 (by kernel_rfl) rfl #[.pointer (some ⟨gc, 0, none⟩)] (by rfl) rfl rfl mp ?_
      with_reducible refine (spec_l2Draw.calls k gc b j2 s2 q j9 s9 w _ ?side1 ?side2 A5.out).mono ?_
      (case side1 => exact HI0.out)
      (case side2 => exact HB.out)
      rintro e wS ⟨v2, rfl, ho0, hi, hb, hk⟩
      refine ⟨_, rfl, ?_⟩
      have HL := aM (Kd.R_lower ho0 HB.out.size)
      have n0 := aM (Kd.S_mono (Kd.S_keep (IsS67.apartS HI0.out HO.out (by decide)) hk (fun _ h => h.2)) (fun _ h => h.1))
      have n2 := aM (KeepBut.blk hk (g' := g2) BK2.out NBc_2.out.symm (by simp))
      have n3 := aM (KeepBut.blk hk (g' := g5) B5.out NBc_5.out.symm (by simp))
      clear HO HI0 BK2 B5 HB
      have HO := n0
      have BK2 := n2
      have B5 := n3
      have HB := aM hb
      clear n0 n2 n3 hi hb hk ho0
      obtain ⟨A9, c9, e9⟩ := Kd.R_slice HL.out
      subst e9
      refine hK.out _ _ ⟨(zc2 B5).1, (zc2 B5).2⟩ (fun hHeld => ?_)
      clear hK K
      refine norm_ (a' := ?_) ?_ ?_
      rotate_left
      · show Act.put _ (some 33) _ = _
        simp only [u6_]
        rfl
      refine one_ (i := 3) (N := none) (bz 5 15) rfl rfl (by kernel_rfl) (by decide) (fun K hK => ?_)
      obtain ⟨hs0, hs1⟩ := zc2 BK2
      have hfs := zf BK2
      have hns := NB5_2.out
      have hms := NB5_2.out.symm
      refine skip_ (w1 := ?_) (by rfl) rfl ?_ ?_
      rotate_left
      · go_simp
        rfl
      refine hK.out _ _ ⟨((cell_far (p := ⟨g2, _, none⟩) NB5_2.out _).trans (((cell_far (p := ⟨g2, _, none⟩) NB5_2.out _).trans (hHeld.1)))), ((cell_far (p := ⟨g2, _, none⟩) NB5_2.out _).trans (((cell_far (p := ⟨g2, _, none⟩) NB5_2.out _).trans (hHeld.2))))⟩ (fun hHeld => ?_)
      clear hK K
      refine pA_ 4 (some 3) (bz 5 31) ?_ ?_ ?_ ?_ ?_
      rotate_left
      · intro w'
        go_simp
        with_reducible rfl
      rotate_left
      · simp only [u6_]
        rfl
      refine done_ (by kernel_rfl) ?_
      try go_wp2
      refine bodyPost_ret (results_ct rfl _ _ g2 26 #[.int .i64 fg, .slice Ax xs.length cx] (0, 0) _ rfl (set2_blk BK2.out) Try.underlying26 rfl (by kernel_rfl)) rfl ?_
      exact ⟨_, _, rfl, Kd.S_mono (Kd.S_far (p := ⟨g2, 1, none⟩) (Kd.S_far (p := ⟨g2, 0, none⟩) (Kd.S_types HO.out BK2.out (by decide)) (fun _ hk => hk.2) (.int .i64 fg)) (fun _ hk => hk.2) (.slice Ax xs.length cx)) (fun _ hk => trivial), Kd.R_mono (Kd.R_far (p := ⟨g2, 1, none⟩) (Kd.R_far (p := ⟨g2, 0, none⟩) (Kd.R_types HL.out BK2.out (by decide)) (fun _ hk => hk.2) (.int .i64 fg)) (fun _ hk => hk.2) (.slice Ax xs.length cx)) (fun _ hk => trivial), set2_below HB.out GE2.out⟩
    | true =>
      have H := HH.out
      rw [if_pos rfl] at H
      obtain ⟨⟨n, j3, s3⟩, A50, H0⟩ := bs_ H
      dsimp only at A50 H0
      have A5 := aM A50
      clear A50 HH H
      by_cases c2 : 0 ≤ n ∧ n < (xs.length : Int) ∧ (rd_T29 xs n).f0.length < 4398046511104
      case neg => rw [if_neg c2] at H0; exact absurd H0 (by simp)
      rw [if_pos c2] at H0
      simp only [Option.some.injEq, Prod.mk.injEq] at H0
      obtain ⟨rfl, rfl, rfl⟩ := H0
      have C2 := aM c2
      clear c2
      go_wp2_with (fail)
      refine (spec_l1Once.calls gc b j1 s1 2 _ j2 s2 w _ HI0.out HB.out A4.out).mono ?_
      rintro e w9 ⟨rfl, hi, hb, hk⟩
      have n0 := aM (Kd.S_mono (Kd.S_keep (IsS67.apartS HI0.out HO.out (by decide)) hk (fun _ h => h.2)) (fun _ h => h.1)); have n2 := aM (KeepBut.blk hk (g' := g2) BK2.out NBc_2.out.symm (by simp)); have n3 := aM (KeepBut.blk hk (g' := g5) B5.out NBc_5.out.symm (by simp)); have n1 := aM hi; have n4 := aM hb; clear HO HI0 BK2 B5 HB hi hb hk z0 z1; have HO := n0; have HI0 := n1; have BK2 := n2; have B5 := n3; have HB := n4; clear n0 n1 n2 n3 n4; obtain ⟨z0, z1⟩ := zc2 B5
      go_wp2
      have hC := (Kd.S_reads' HO.out).2.2
      obtain ⟨ga, cp, hv1, _, _, ct, hbk⟩ := Kd.S_form HO.out (by have := C1.out; omega)
      injection hv1 with hv1 hv2 hv3
      subst hv1
      subst hv3
      have NBa := aM (blk_ne hbk B5.out (by decide))
      have NBa2 := aM (blk_ne hbk BK2.out (by decide))
      clear hv2 hbk
      obtain ⟨ad, Ai, ci, ea, hx0, _, _, _, hli, _⟩ := at_T29 hC n C2.out.1 C2.out.2.1
      obtain rfl : (⟨ga, 0, none⟩ : Addr) = ad := by injection ea
      rw [Addr.add_lit, Nat.zero_add] at hx0
      have HLI := aM hli
      have p0t : (0 ≤ n) = True := eq_true C2.out.1
      have q0t : (n < (xs.length : Int)) = True := eq_true C2.out.2.1
      clear hC hli ea
      refine start_ (n := 15) (S := fun w' => w'.cell? ⟨g5, 0, none⟩ = some (.int .i64 fg) ∧ w'.cell? ⟨g5, 1, none⟩ = some (.slice (some ⟨ga, 0, none⟩) xs.length cx) ∧ w'.cell? ⟨ga, n.toNat * 4, none⟩ = some (.slice Ai (rd_T29 xs n).f0.length ci)) (ds := []) (bz 15 0) (by kernel_rfl) rfl (by kernel_rfl) ⟨z0, z1, hx0⟩ (fun hHeld => ?_)
      clear hx0 z0 z1
      have n0 := aM (Kd.S_drew HO.out)
      have n1 := aM (IsS67.drew HI0.out)
      have n2 := aM (blk_drew BK2.out)
      have n3 := aM (blk_drew B5.out)
      have n4 := aM (below_drew1 HB.out)
      clear HO HI0 BK2 B5 HB
      have HO := n0
      have HI0 := n1
      have BK2 := n2
      have B5 := n3
      have HB := n4
      clear n0 n1 n2 n3 n4
      generalize w9.drew = wd at HO HI0 BK2 B5 HB hHeld ⊢
      refine tA_ 0 (some 18) (bz 15 1) ?_ ?_ hHeld ?_ ?_ ?_
      rotate_left
      · rintro w' ⟨s0, s1, s2⟩
        go_simp
        with_reducible rfl
      rotate_left
      · simp only [u6_]
        rfl
      refine pA_ 2 (some 20) (bz 15 5) ?_ ?_ ?_ ?_ ?_
      rotate_left
      · intro w'
        go_simp
        with_reducible rfl
      rotate_left
      · simp only [u6_]
        rfl
      refine tA_ 3 (some 21) (bz 15 13) ?_ ?_ hHeld ?_ ?_ ?_
      rotate_left
      · rintro w' ⟨s0, s1, s2⟩
        go_simp
        with_reducible rfl
      rotate_left
      · simp only [u6_]
        rfl
      refine pA_ 4 (some 22) (bz 15 29) ?_ ?_ ?_ ?_ ?_
      rotate_left
      · intro w'
        go_simp
        with_reducible rfl
      rotate_left
      · simp only [u6_]
        rfl
      refine pA_ 5 (some 23) (bz 15 61) ?_ ?_ ?_ ?_ ?_
      rotate_left
      · intro w'
        go_simp
        with_reducible rfl
      rotate_left
      · simp only [u6_]
        rfl
      refine tA_ 6 (some 24) (bz 15 125) ?_ ?_ hHeld ?_ ?_ ?_
      rotate_left
      · rintro w' ⟨s0, s1, s2⟩
        go_simp
        with_reducible rfl
      rotate_left
      · simp only [u6_]
        rfl
      refine pA_ 7 (some 25) (bz 15 253) ?_ ?_ ?_ ?_ ?_
      rotate_left
      · intro w'
        go_simp
        with_reducible rfl
      rotate_left
      · simp only [u6_]
        rfl
      refine join_ (σ := Value) 3 (bz 15 4095) (fun s_ => [(19, s_), (26, .int .i64 n), (27, .pointer (some ⟨ga, n.toNat * 4, none⟩)), (28, .pointer (some ⟨ga, n.toNat * 4, none⟩)), (29, .slice Ai (rd_T29 xs n).f0.length ci)]) (fun s_ w' => (w'.cell? ⟨g5, 0, none⟩ = some (.int .i64 fg) ∧ w'.cell? ⟨g5, 1, none⟩ = some (.slice (some ⟨ga, 0, none⟩) xs.length cx) ∧ w'.cell? ⟨ga, n.toNat * 4, none⟩ = some (.slice Ai (rd_T29 xs n).f0.length ci)) ∧ Kd.R k76 76 w' w.heap.size (fun _ => True) s_ [] ∧ Kd.S k29 29 w' w.heap.size (fun k_ => some k_ ≠ s_.ownBlock) (.slice (some ⟨ga, 0, none⟩) xs.length cx) xs ∧ w'.heap[g2]? = some (.cells #[.int .i64 0, .slice none 0 0] 26 (0, 0)) ∧ w'.heap[g5]? = some (.cells #[.int .i64 fg, .slice (some ⟨ga, 0, none⟩) xs.length cx] 26 (0, 0)) ∧ Below w.heap.size w w') ?_ ?_
      rotate_left
      · intro hCont
        refine two_ (i := 1) (j := 8) (Ni := some 19) (Nj := some 26) (bz 15 255) (bz 15 509) rfl rfl rfl rfl (by kernel_rfl) (by decide) (by decide) (fun K hK => ?_) (fun K hK => ?_)
        · skip
          refine Kd.R_lit_step k76 _ 76 rfl (N := 19) rfl (xs := ([] : List (S76))) (inner := []) (ok := fun _ => True) (okp := fun _ => True) gs ?hp (fun _ hk => hk) trivial (Below.refl _ _) (Nat.le_refl _) (by simp) ?_; (case hp => exact (Reps.none _ _))
          intro v19 wl ho hb hg_ hn_; clear hg_
          obtain ⟨b19, hv19, hb19⟩ := hn_
          have H19 := aM (Kd.R_lower ho HB.out.size)
          have n0 := aM (Kd.S_mono (Kd.S_elder' (v := v19) HO.out (fun k_ hk => by rw [hv19] at hk; cases hk; exact hb19) hb) (fun _ hk => hk.2))
          have n1 := aM (IsS67.below HI0.out hb)
          have n2 := aM (blk_below BK2.out hb)
          have n3 := aM (blk_below B5.out hb)
          have n4 := aM (below_step HB.out hb)
          have nh := pw_cell_below hb hHeld.2.2
          clear HO HI0 BK2 B5 HB ho
          have HO := n0
          have HI0 := n1
          have BK2 := n2
          have B5 := n3
          have HB := n4
          clear n0 n1 n2 n3 n4 hb
          refine hK.out _ _ ⟨(zc2 B5).1, (zc2 B5).2, nh⟩ (fun hHeld => ?_)
          clear hK K nh
          refine norm_ (a' := ?_) ?_ ?_
          rotate_left
          · show Act.put _ (some 19) _ = _
            simp only [u6_]
            rfl
          refine one_ (i := 8) (N := some 26) (bz 15 511) rfl rfl (by kernel_rfl) (by decide) (fun K hK => ?_)
          refine goes_ Try.func27 (by kernel_rfl) rfl #[.pointer (some ⟨gc, 0, none⟩), .int .i64 (xs.length : Int)] (by rfl) rfl rfl mp ?_
          with_reducible refine (spec_l1Below.calls gc b j2 s2 (xs.length : Int) n j3 s3 w _ ?side1 ?side2 A5.out).mono ?_
          (case side1 => exact HI0.out)
          (case side2 => exact HB.out)
          rintro e wc ⟨rfl, hi, hb, hk⟩
          refine ⟨_, rfl, ?_⟩
          have n0 := aM (Kd.S_mono (Kd.S_keep (IsS67.apartS HI0.out HO.out (by decide)) hk (fun _ h => h.2)) (fun _ h => h.1))
          have n2 := aM (KeepBut.blk hk (g' := g2) BK2.out NBc_2.out.symm (by simp))
          have n3 := aM (KeepBut.blk hk (g' := g5) B5.out NBc_5.out.symm (by simp))
          obtain ⟨ga', cp', e', _, hlt, ct', hbk'⟩ := Kd.S_form HO.out (by have := C1.out; omega)
          obtain rfl : ga = ga' := by injection e' with e1; injection e1 with e1; injection e1
          have nh := (World.cell?_of_block (a := ⟨ga, n.toNat * 4, none⟩) (hk.2 ga hlt (IsS67.ne_blk HI0.out hbk' (by decide)).symm (by simp))).trans hHeld.2.2
          clear e' hlt hbk'
          have n5 := aM (Kd.R_mono (Kd.R_keep (IsS67.apart HI0.out H19.out (by decide)) hk (fun _ h => h.2)) (fun _ h => h.1))
          clear H19
          have H19 := n5
          clear n5
          have n1 := aM hi
          have n4 := aM hb
          clear HO HI0 BK2 B5 HB hi hb hk
          have HO := n0
          have HI0 := n1
          have BK2 := n2
          have B5 := n3
          have HB := n4
          clear n0 n1 n2 n3 n4
          refine hK.out _ _ ⟨(zc2 B5).1, (zc2 B5).2, nh⟩ (fun hHeld => ?_)
          clear hK K nh
          refine norm_ (a' := ?_) ?_ ?_
          rotate_left
          · show Act.put _ (some 26) _ = _
            simp only [u6_]
            rfl
          refine pA_ 9 (some 27) (bz 15 1023) ?_ ?_ ?_ ?_ ?_
          rotate_left
          · intro w'
            go_simp
            with_reducible rfl
          rotate_left
          · simp only [u6_]
            rfl
          refine pA_ 10 (some 28) (bz 15 2047) ?_ ?_ ?_ ?_ ?_
          rotate_left
          · intro w'
            go_simp
            with_reducible rfl
          rotate_left
          · simp only [u6_]
            rfl
          refine tA_ 11 (some 29) (bz 15 4095) ?_ ?_ hHeld ?_ ?_ ?_
          rotate_left
          · rintro w' ⟨s0, s1, s2⟩
            go_simp
            with_reducible rfl
          rotate_left
          · simp only [u6_]
            rfl
          exact norm_ (by simp only [putAll, Act.put, List.setIfInBounds_toArray, List.set_cons_zero, List.set_cons_succ]) (hCont v19 _ ⟨⟨(zc2 B5).1, (zc2 B5).2, hHeld.2.2⟩, H19.out, HO.out, BK2.out, B5.out, HB.out⟩)
        · skip
          refine goes_ Try.func27 (by kernel_rfl) rfl #[.pointer (some ⟨gc, 0, none⟩), .int .i64 (xs.length : Int)] (by rfl) rfl rfl mp ?_
          with_reducible refine (spec_l1Below.calls gc b j2 s2 (xs.length : Int) n j3 s3 w _ ?side1 ?side2 A5.out).mono ?_
          (case side1 => exact HI0.out)
          (case side2 => exact HB.out)
          rintro e wc ⟨rfl, hi, hb, hk⟩
          refine ⟨_, rfl, ?_⟩
          have n0 := aM (Kd.S_mono (Kd.S_keep (IsS67.apartS HI0.out HO.out (by decide)) hk (fun _ h => h.2)) (fun _ h => h.1))
          have n2 := aM (KeepBut.blk hk (g' := g2) BK2.out NBc_2.out.symm (by simp))
          have n3 := aM (KeepBut.blk hk (g' := g5) B5.out NBc_5.out.symm (by simp))
          obtain ⟨ga', cp', e', _, hlt, ct', hbk'⟩ := Kd.S_form HO.out (by have := C1.out; omega)
          obtain rfl : ga = ga' := by injection e' with e1; injection e1 with e1; injection e1
          have nh := (World.cell?_of_block (a := ⟨ga, n.toNat * 4, none⟩) (hk.2 ga hlt (IsS67.ne_blk HI0.out hbk' (by decide)).symm (by simp))).trans hHeld.2.2
          clear e' hlt hbk'
          have n1 := aM hi
          have n4 := aM hb
          clear HO HI0 BK2 B5 HB hi hb hk
          have HO := n0
          have HI0 := n1
          have BK2 := n2
          have B5 := n3
          have HB := n4
          clear n0 n1 n2 n3 n4
          refine hK.out _ _ ⟨(zc2 B5).1, (zc2 B5).2, nh⟩ (fun hHeld => ?_)
          clear hK K nh
          refine norm_ (a' := ?_) ?_ ?_
          rotate_left
          · show Act.put _ (some 26) _ = _
            simp only [u6_]
            rfl
          refine pA_ 9 (some 27) (bz 15 1021) ?_ ?_ ?_ ?_ ?_
          rotate_left
          · intro w'
            go_simp
            with_reducible rfl
          rotate_left
          · simp only [u6_]
            rfl
          refine pA_ 10 (some 28) (bz 15 2045) ?_ ?_ ?_ ?_ ?_
          rotate_left
          · intro w'
            go_simp
            with_reducible rfl
          rotate_left
          · simp only [u6_]
            rfl
          refine tA_ 11 (some 29) (bz 15 4093) ?_ ?_ hHeld ?_ ?_ ?_
          rotate_left
          · rintro w' ⟨s0, s1, s2⟩
            go_simp
            with_reducible rfl
          rotate_left
          · simp only [u6_]
            rfl
          refine one_ (i := 1) (N := some 19) (bz 15 4095) rfl rfl (by kernel_rfl) (by decide) (fun K hK => ?_)
          refine Kd.R_lit_step k76 _ 76 rfl (N := 19) rfl (xs := ([] : List (S76))) (inner := []) (ok := fun _ => True) (okp := fun _ => True) gs ?hp (fun _ hk => hk) trivial (Below.refl _ _) (Nat.le_refl _) (by simp) ?_; (case hp => exact (Reps.none _ _))
          intro v19 wl ho hb hg_ hn_; clear hg_
          obtain ⟨b19, hv19, hb19⟩ := hn_
          have H19 := aM (Kd.R_lower ho HB.out.size)
          have n0 := aM (Kd.S_mono (Kd.S_elder' (v := v19) HO.out (fun k_ hk => by rw [hv19] at hk; cases hk; exact hb19) hb) (fun _ hk => hk.2))
          have n1 := aM (IsS67.below HI0.out hb)
          have n2 := aM (blk_below BK2.out hb)
          have n3 := aM (blk_below B5.out hb)
          have n4 := aM (below_step HB.out hb)
          have nh := pw_cell_below hb hHeld.2.2
          clear HO HI0 BK2 B5 HB ho
          have HO := n0
          have HI0 := n1
          have BK2 := n2
          have B5 := n3
          have HB := n4
          clear n0 n1 n2 n3 n4 hb
          refine hK.out _ _ ⟨(zc2 B5).1, (zc2 B5).2, nh⟩ (fun hHeld => ?_)
          clear hK K nh
          refine norm_ (a' := ?_) ?_ ?_
          rotate_left
          · show Act.put _ (some 19) _ = _
            simp only [u6_]
            rfl
          exact norm_ (by simp only [putAll, Act.put, List.setIfInBounds_toArray, List.set_cons_zero, List.set_cons_succ]) (hCont v19 _ ⟨⟨(zc2 B5).1, (zc2 B5).2, hHeld.2.2⟩, H19.out, HO.out, BK2.out, B5.out, HB.out⟩)
      rintro v19 wj ⟨hHeld, h19, hO, h2, h5, hB⟩
      clear HO HI0 BK2 B5 HB
      have H19 := aM h19
      have HO := aM hO
      have BK2 := aM h2
      have B5 := aM h5
      have HB := aM hB
      clear h19 hO h2 h5 hB
      refine norm_ (a' := ?_) ?_ ?_
      rotate_left
      · simp only [putAll, Act.put, List.setIfInBounds_toArray, List.set_cons_zero, List.set_cons_succ]
        rfl
      refine one_ (i := 12) (N := some 30) (bz 15 8191) rfl rfl (by kernel_rfl) (by decide) (fun K hK => ?_)
      have C2b := C2.out.2.2
      obtain ⟨ad', Ai', ci', ea', hx', _, _, _, _, hCi⟩ := at_T29 (Kd.S_reads' HO.out).2.2 n C2.out.1 C2.out.2.1
      obtain rfl : (⟨ga, 0, none⟩ : Addr) = ad' := by injection ea'
      rw [Addr.add_lit, Nat.zero_add] at hx'
      have e_ := Option.some.inj (hx'.symm.trans hHeld.2.2)
      injection e_ with e1 e2 e3
      subst e1
      subst e3
      have HCi := aM hCi
      clear hCi hx' e2 ea'
      refine Kd.R_append_rows_step k76 (w0 := w) (Rr := k76.K wj) w.heap.size rfl (.tmp 19) (.tmp 29) 27 76 (.agg #[(.string ⟨#[]⟩), (.string ⟨#[]⟩)]) 32 rfl Try.underlying27 info76 rfl (by decide) (by omega) v19 [] (rd_T29 xs n).f0 _ _ _ (fun _ => True) (fun _ => False) rfl rfl H19.out HCi.out (fun x_ cs_ hK_ => by rw [k76_open hK_]; exact k76_mkM _ _ _ x_) (fun _ h => h.elim) (fun _ _ => trivial) HB.out HB.out.size (by simp only [List.length_nil]; omega) ?_
      intro v30 wS ho hb hg hat_
      rw [List.nil_append] at ho
      have HL := aM ho
      have n0 := aM (Kd.S_mono (ok' := fun _ => True) (Kd.S_grown HO.out hg (fun _ hk => hk)) (fun _ _ => trivial))
      have n2 := aM (blk_grown (g := g2) BK2.out hg (Kd.R_ne H19.out BK2.out (by decide)))
      have n3 := aM (blk_grown (g := g5) B5.out hg (Kd.R_ne H19.out B5.out (by decide)))
      obtain ⟨ad2, Ai2, ci2, ea2, hx2, _⟩ := at_T29 (Kd.S_reads' n0.out).2.2 n C2.out.1 C2.out.2.1
      obtain ⟨ga', cp', e', _, hlt, ct', hbk'⟩ := Kd.S_form HO.out (by have := C1.out; omega)
      obtain rfl : ga = ga' := by injection e' with e1; injection e1 with e1; injection e1
      have nh := (World.cell?_of_block (a := ⟨ga, n.toNat * 4, none⟩) (hg.block ga hlt ((Kd.S_R HO.out).1 ga rfl))).trans hHeld.2.2
      clear e' hlt hbk' hx2 ea2
      clear HO BK2 B5 HB H19 ho
      have HO := n0
      have BK2 := n2
      have B5 := n3
      have HB := aM hb
      clear n0 n2 n3 hb hg hat_
      obtain ⟨A9, c9, e9⟩ := Kd.R_slice HL.out
      subst e9
      refine hK.out _ _ ⟨(zc2 B5).1, (zc2 B5).2, nh⟩ (fun hHeld => ?_)
      clear hK K nh
      refine norm_ (a' := ?_) ?_ ?_
      rotate_left
      · show Act.put _ (some 30) _ = _
        simp only [u6_]
        rfl
      refine one_ (i := 13) (N := none) (bz 15 16383) rfl rfl (by kernel_rfl) (by decide) (fun K hK => ?_)
      obtain ⟨hs0, hs1⟩ := zc2 BK2
      have hfs := zf BK2
      have hns := NB5_2.out
      have hms := NB5_2.out.symm
      refine skip_ (w1 := ?_) (by rfl) rfl ?_ ?_
      rotate_left
      · go_simp
        rfl
      refine hK.out _ _ ⟨((cell_far (p := ⟨g2, _, none⟩) NB5_2.out _).trans (((cell_far (p := ⟨g2, _, none⟩) NB5_2.out _).trans (hHeld.1)))), ((cell_far (p := ⟨g2, _, none⟩) NB5_2.out _).trans (((cell_far (p := ⟨g2, _, none⟩) NB5_2.out _).trans (hHeld.2.1)))), ((cell_far (p := ⟨g2, _, none⟩) NBa2.out _).trans (((cell_far (p := ⟨g2, _, none⟩) NBa2.out _).trans (hHeld.2.2))))⟩ (fun hHeld => ?_)
      clear hK K
      refine pA_ 14 (some 3) (bz 15 32767) ?_ ?_ ?_ ?_ ?_
      rotate_left
      · intro w'
        go_simp
        with_reducible rfl
      rotate_left
      · simp only [u6_]
        rfl
      refine done_ (by kernel_rfl) ?_
      try go_wp2
      refine bodyPost_ret (results_ct rfl _ _ g2 26 #[.int .i64 fg, .slice (some ⟨ga, 0, none⟩) xs.length cx] (0, 0) _ rfl (set2_blk BK2.out) Try.underlying26 rfl (by kernel_rfl)) rfl ?_
      exact ⟨_, _, rfl, Kd.S_mono (Kd.S_far (p := ⟨g2, 1, none⟩) (Kd.S_far (p := ⟨g2, 0, none⟩) (Kd.S_types HO.out BK2.out (by decide)) (fun _ hk => hk.2) (.int .i64 fg)) (fun _ hk => hk.2) (.slice (some ⟨ga, 0, none⟩) xs.length cx)) (fun _ hk => trivial), Kd.R_mono (Kd.R_far (p := ⟨g2, 1, none⟩) (Kd.R_far (p := ⟨g2, 0, none⟩) (Kd.R_types HL.out BK2.out (by decide)) (fun _ hk => hk.2) (.int .i64 fg)) (fun _ hk => hk.2) (.slice (some ⟨ga, 0, none⟩) xs.length cx)) (fun _ hk => trivial), set2_below HB.out GE2.out⟩
/-! ### spec_DrawPutChain: function 5 (by hand) -/
def spec_DrawPutChain.f (k : Nat) (l0 : List Int) : Option (Int × (List (S29)) × (List (S76)) × Int × Int × ByteArray) :=
  (spec_l1New.f k l0).bind fun b0 => (spec_l6Any.f k b0.1 b0.2.1 b0.2.2).bind fun b1 => (spec_l4Draw.f k b0.1 b1.2.2.1 b1.2.2.2).bind fun b2 => if b1.2.1.length = 0 then some (b1.1, b1.2.1, b2.1, b2.2.1, b2.2.2.1, b2.2.2.2.1) else (spec_l1Once.f b0.1 b2.2.2.2.2.1 b2.2.2.2.2.2 2).bind fun b3 => if b3.1 = true then ((spec_l1Below.f b0.1 b3.2.1 b3.2.2 (b1.2.1.length : Int)).bind fun b4 => if 0 ≤ b4.1 ∧ b4.1 < (b1.2.1.length : Int) ∧ (rd_T29 b1.2.1 b4.1).f0.length < 4398046511104 then some (b1.1, b1.2.1, (rd_T29 b1.2.1 b4.1).f0, b2.2.1, b2.2.2.1, b2.2.2.2.1) else none) else some (b1.1, b1.2.1, b2.1, b2.2.1, b2.2.2.1, b2.2.2.2.1)
theorem spec_DrawPutChain.calls (k : Nat) (A0 : Option Addr) (c0 : Nat) (l0 : List Int) (r1 : Int) (r2 : List (S29)) (r3 : List (S76)) (r4 : Int) (r5 : Int) (r6 : ByteArray) (w : World) (hr0 : Kd.C (Kd.int .u8) w A0 l0.length l0) (hc0 : l0.length ≤ c0) (h : spec_DrawPutChain.f k l0 = some (r1, r2, r3, r4, r5, r6)) :
    Calls Try.prog 5 #[.slice A0 l0.length c0] w fun e w' => ∃ v1_ v3_ : Value, e = .returned (.tuple #[.agg #[.int .i64 r1, v1_], .agg #[v3_, .int .i64 r4, .int .i64 r5, .string r6]]) ∧ Kd.S k29 29 w' w.heap.size (fun _ => True) v1_ r2 ∧ Kd.R k76 76 w' w.heap.size (fun _ => True) v3_ r3 ∧ Below w.heap.size w w' := by
  have hu26 := Try.underlying26
  have hu29 := Try.underlying29
  have HR0 := aM hr0
  have HC0 := aM hc0
  clear hr0 hc0
  unfold spec_DrawPutChain.f at h
  have HB := aM (Below.refl w.heap.size w)
  obtain ⟨⟨b, j0, s0⟩, A20, H0⟩ := bs_ h
  obtain ⟨⟨fg, xs, j1, s1⟩, A30, H1⟩ := bs_ H0
  obtain ⟨⟨al, aS, aE, aN, j2, s2⟩, A40, H⟩ := bs_ H1
  dsimp only at A30 A40 H
  have A2 := aM A20
  have A3 := aM A30
  have A4 := aM A40
  have HH := aM H
  clear h H H0 H1 A20 A30 A40
  go_enter Try.func5, Try.ntmps5
  go_upto_region 3 with (first | (refine be_ 2 #[.int .i64 0, .slice none 0 0] 26 ?_; intro g2 hg w4 hbox hb; have BK2 := aM (hbox); have GE2 := gw hg (bw HB); replace HB := aM (below_step (bw HB) hb); clear hb hbox hg) | (refine be_ 3 #[.slice none 0 0, .int .i64 0, .int .i64 0, .string (⟨#[]⟩ : ByteArray)] 29 ?_; intro g3 hg w5 hbox hb; have BK3 := aM (hbox); have GE3 := gw hg (bw HB); have NB2_3 := nb1 hg BK2; replace BK2 := bb BK2 hb; replace HB := aM (below_step (bw HB) hb); clear hb hbox hg) | (refine gl_ (some 8) Try.func23 #[.slice A0 l0.length c0] ?_; (with_reducible refine (spec_l1New.calls k _ _ l0 b j0 s0 w _ ?side1 ?side2 ?side3 A2.out).mono ?_); (case side1 => exact bw HB); (case side2 => exact HR0.out); (case side3 => exact HC0.out); rintro e w6 ⟨gc, rfl, hi, hb, hb2⟩; refine ⟨_, rfl, ?_⟩; replace HB := aM (hb); have HI0 := aM (hi); have NBc_2 := aM (IsS67.ne_blk hi (blk_below (g := g2) (aB BK2) hb2) (by decide)); have NBc_3 := aM (IsS67.ne_blk hi (blk_below (g := g3) (aB BK3) hb2) (by decide)); replace BK2 := aM (blk_below (g := g2) (aB BK2) hb2); replace BK3 := aM (blk_below (g := g3) (aB BK3) hb2); clear hb hb2 hi) | (refine gl_ (some 10) Try.func24 #[.pointer (some ⟨gc, 0, none⟩)] ?_; (with_reducible refine (spec_l6Any.calls k gc b j0 s0 fg xs j1 s1 w _ ?side1 ?side2 A3.out).mono ?_); (case side1 => exact iw HI0); (case side2 => exact bw HB); rintro e w7 ⟨v1, rfl, ho0, hi, hb, hk⟩; refine ⟨_, rfl, ?_⟩; have HO := aM (Kd.S_lower (Kd.S_mono (ok' := fun k_ => k_ ≠ g3) (Kd.S_bound ho0) (fun k_ hk => Nat.ne_of_gt (Nat.lt_of_lt_of_le (blk_lt (aB BK3)) hk.2.1))) (below_size (bw HB))); replace BK2 := aM (KeepBut.blk hk (g' := g2) (aB BK2) NBc_2.out.symm (by simp)); replace BK3 := aM (KeepBut.blk hk (g' := g3) (aB BK3) NBc_3.out.symm (by simp)); replace HB := aM (hb); replace HI0 := aM (hi); clear hb hk hi ho0) | (refine be_ 5 #[.int .i64 0, .slice none 0 0] 26 ?_; intro g5 hg w8 hbox hb; have E5 := aM hg; have V5 := aM hb; have K5 := aM hbox; clear hg hb hbox; obtain ⟨y0, y1⟩ := zc2 K5; have q0 := zf K5; obtain ⟨Ax, cx, ex⟩ := Kd.S_slice HO.out; subst ex))
  have hE := set2_below (b0 := (.int .i64 fg)) (b1 := (.slice Ax xs.length cx)) V5.out (Nat.le_of_eq E5.out.symm)
  have B5 := aM (set2_blk (b0 := (.int .i64 fg)) (b1 := (.slice Ax xs.length cx)) K5.out)
  have NB5_2 := aM (show g5 ≠ g2 from by rw [E5.out]; exact Nat.ne_of_gt (blk_lt BK2.out))
  have NB5_3 := aM (show g5 ≠ g3 from by rw [E5.out]; exact Nat.ne_of_gt (blk_lt BK3.out))
  have NBc_5 := aM (show gc ≠ g5 from by rw [E5.out]; exact Nat.ne_of_lt (IsS67.lt HI0.out))
  replace HO := aM (Kd.S_below HO.out hE)
  replace HI0 := aM (IsS67.below HI0.out hE)
  replace BK2 := aM (blk_below BK2.out hE)
  replace BK3 := aM (blk_below BK3.out hE)
  replace HB := aM (below_step HB.out hE)
  clear hE E5 V5 K5 y0 y1 q0
  generalize ((w8.setCell ⟨g5, 0, none⟩ (.int .i64 fg)).setCell ⟨g5, 1, none⟩ (.slice Ax xs.length cx)) = wq at HO HI0 BK2 BK3 B5 HB ⊢
  go_upto_region 4 with (first | (refine gl_ (some 12) Try.func25 #[.pointer (some ⟨gc, 0, none⟩)] ?_; (with_reducible refine (spec_l4Draw.calls k gc b j1 s1 al aS aE aN j2 s2 w _ HI0.out HB.out A4.out).mono ?_); rintro e w9 ⟨v3, rfl, ho0, hi, hb, hk⟩; refine ⟨_, rfl, ?_⟩; have HL := aM (Kd.R_lower ho0 HB.out.size); replace HO := aM (Kd.S_mono (Kd.S_keep (IsS67.apartS HI0.out HO.out (by decide)) hk (fun _ h => h.2)) (fun _ h => h.1)); replace BK2 := aM (KeepBut.blk hk (g' := g2) BK2.out NBc_2.out.symm (by simp)); replace BK3 := aM (KeepBut.blk hk (g' := g3) BK3.out NBc_3.out.symm (by simp)); replace B5 := aM (KeepBut.blk hk (g' := g5) B5.out NBc_5.out.symm (by simp)); replace HB := aM hb; replace HI0 := aM hi; clear hb hk hi ho0) | (refine be_ 6 #[.slice none 0 0, .int .i64 0, .int .i64 0, .string (⟨#[]⟩ : ByteArray)] 29 ?_; intro g6 hg wa hbox hb; have E6 := aM hg; have V6 := aM hb; have K6 := aM hbox; clear hg hb hbox; obtain ⟨y0, y1, y2, y3⟩ := zc4 K6; have q0 := zf K6; obtain ⟨A3_, c3_, e3_⟩ := Kd.R_slice HL.out; subst e3_))
  have hE := set4_below (b0 := (.slice A3_ al.length c3_)) (b1 := (.int .i64 aS)) (b2 := (.int .i64 aE)) (b3 := (.string aN)) V6.out (Nat.le_of_eq E6.out.symm)
  have B6 := aM (set4_blk (b0 := (.slice A3_ al.length c3_)) (b1 := (.int .i64 aS)) (b2 := (.int .i64 aE)) (b3 := (.string aN)) K6.out)
  have NB6_2 := aM (show g6 ≠ g2 from by rw [E6.out]; exact Nat.ne_of_gt (blk_lt BK2.out))
  have NB6_3 := aM (show g6 ≠ g3 from by rw [E6.out]; exact Nat.ne_of_gt (blk_lt BK3.out))
  have NB6_5 := aM (show g6 ≠ g5 from by rw [E6.out]; exact Nat.ne_of_gt (blk_lt B5.out))
  have NBc_6 := aM (show gc ≠ g6 from by rw [E6.out]; exact Nat.ne_of_lt (IsS67.lt HI0.out))
  have GE6 := gw E6.out HB.out
  replace HO := aM (Kd.S_below (Kd.S_elderB HO.out g6 (Nat.le_of_eq E6.out.symm)) hE)
  replace HL := aM (Kd.R_below HL.out hE)
  replace HI0 := aM (IsS67.below HI0.out hE)
  replace BK2 := aM (blk_below BK2.out hE)
  replace BK3 := aM (blk_below BK3.out hE)
  replace B5 := aM (blk_below B5.out hE)
  replace HB := aM (below_step HB.out hE)
  clear hE E6 V6 K6 y0 y1 y2 y3 q0
  generalize ((((wa.setCell ⟨g6, 0, none⟩ (.slice A3_ al.length c3_)).setCell ⟨g6, 1, none⟩ (.int .i64 aS)).setCell ⟨g6, 2, none⟩ (.int .i64 aE)).setCell ⟨g6, 3, none⟩ (.string aN)) = wq at HO HL HI0 BK2 BK3 B5 B6 HB ⊢
  obtain ⟨z0, z1⟩ := zc2 B5
  have H := HH.out
  clear HH
  by_cases c1 : xs.length = 0
  · rw [if_pos c1] at H
    simp only [Option.some.injEq, Prod.mk.injEq] at H
    obtain ⟨rfl, rfl, rfl, rfl, rfl, rfl⟩ := H
    have cb0 : decide (0 < (xs.length : Int)) = false := decide_eq_false (by omega)
    have cb1 : decide (0 < xs.length) = false := decide_eq_false (by omega)
    have cb2 : (0 < xs.length) = False := eq_false (by omega)
    clear c1
    go_wp2
    refine start_ (n := 4) (S := fun w' => (w'.cell? ⟨g5, 0, none⟩ = some (.int .i64 fg) ∧ w'.cell? ⟨g5, 1, none⟩ = some (.slice Ax xs.length cx)) ∧ w'.cell? ⟨g6, 0, none⟩ = some (.slice A3_ al.length c3_) ∧ w'.cell? ⟨g6, 1, none⟩ = some (.int .i64 aS) ∧ w'.cell? ⟨g6, 2, none⟩ = some (.int .i64 aE) ∧ w'.cell? ⟨g6, 3, none⟩ = some (.string aN)) (ds := []) (bz 4 0) (by kernel_rfl) rfl (by kernel_rfl) ⟨zc2 B5, zc4 B6⟩ (fun hHeld => ?_)
    replace HO := aM (Kd.S_drew HO.out)
    replace HL := aM (Kd.R_drew HL.out)
    replace BK2 := aM (blk_drew BK2.out)
    replace BK3 := aM (blk_drew BK3.out)
    replace HB := aM (below_drew1 HB.out)
    generalize wq.drew = wd at HO HL BK2 BK3 HB hHeld ⊢
    refine tA_ 0 (some 34) (bz 4 1) ?_ ?_ hHeld ?_ ?_ ?_
    rotate_left
    · rintro w' ⟨⟨s0, s1⟩, s2, s3, s4, s5⟩
      go_simp
      with_reducible rfl
    rotate_left
    · simp only [u6_]
      rfl
    refine tA_ 1 (some 35) (bz 4 3) ?_ ?_ hHeld ?_ ?_ ?_
    rotate_left
    · rintro w' ⟨⟨s0, s1⟩, s2, s3, s4, s5⟩
      go_simp
      with_reducible rfl
    rotate_left
    · simp only [u6_]
      rfl
    refine one_ (i := 2) (N := none) (bz 4 7) rfl rfl (by kernel_rfl) (by decide) (fun K hK => ?_)
    obtain ⟨hs0, hs1⟩ := zc2 BK2
    have hfs := zf BK2
    refine skip_ (w1 := ?_) (by rfl) rfl ?_ ?_
    rotate_left
    · go_simp
      rfl
    clear hs0 hs1 hfs
    refine hK.out _ _ ⟨⟨((cell_far (p := ⟨g2, _, none⟩) NB5_2.out _).trans ((cell_far (p := ⟨g2, _, none⟩) NB5_2.out _).trans hHeld.1.1)), ((cell_far (p := ⟨g2, _, none⟩) NB5_2.out _).trans ((cell_far (p := ⟨g2, _, none⟩) NB5_2.out _).trans hHeld.1.2))⟩, ((cell_far (p := ⟨g2, _, none⟩) NB6_2.out _).trans ((cell_far (p := ⟨g2, _, none⟩) NB6_2.out _).trans hHeld.2.1)), ((cell_far (p := ⟨g2, _, none⟩) NB6_2.out _).trans ((cell_far (p := ⟨g2, _, none⟩) NB6_2.out _).trans hHeld.2.2.1)), ((cell_far (p := ⟨g2, _, none⟩) NB6_2.out _).trans ((cell_far (p := ⟨g2, _, none⟩) NB6_2.out _).trans hHeld.2.2.2.1)), ((cell_far (p := ⟨g2, _, none⟩) NB6_2.out _).trans ((cell_far (p := ⟨g2, _, none⟩) NB6_2.out _).trans hHeld.2.2.2.2))⟩ (fun hHeld => ?_)
    clear hK K
    replace HO := aM (Kd.S_mono (Kd.S_far (p := ⟨g2, 1, none⟩) (Kd.S_far (p := ⟨g2, 0, none⟩) (Kd.S_types HO.out BK2.out (by decide)) (fun _ hk => hk.2) (.int .i64 fg)) (fun _ hk => hk.2) (.slice Ax xs.length cx)) (fun _ hk => hk.1))
    replace HL := aM (Kd.R_mono (Kd.R_far (p := ⟨g2, 1, none⟩) (Kd.R_far (p := ⟨g2, 0, none⟩) (Kd.R_types HL.out BK2.out (by decide)) (fun _ hk => hk.2) (.int .i64 fg)) (fun _ hk => hk.2) (.slice Ax xs.length cx)) (fun _ hk => trivial))
    replace BK2 := aM (set2_blk (b0 := (.int .i64 fg)) (b1 := (.slice Ax xs.length cx)) BK2.out)
    replace BK3 := aM (set2_far (b0 := (.int .i64 fg)) (b1 := (.slice Ax xs.length cx)) BK3.out NB2_3.out.symm)
    replace HB := aM (set2_below (b0 := (.int .i64 fg)) (b1 := (.slice Ax xs.length cx)) HB.out GE2.out)
    generalize ((wd.setCell ⟨g2, 0, none⟩ (.int .i64 fg)).setCell ⟨g2, 1, none⟩ (.slice Ax xs.length cx)) = we at HO HL BK2 BK3 HB hHeld ⊢
    refine one_ (i := 3) (N := none) (bz 4 15) rfl rfl (by kernel_rfl) (by decide) (fun K hK => ?_)
    obtain ⟨hs0, hs1, hs2, hs3⟩ := zc4 BK3
    have hfs := zf BK3
    refine skip_ (w1 := ?_) (by rfl) rfl ?_ ?_
    rotate_left
    · go_simp
      rfl
    clear hs0 hs1 hs2 hs3 hfs
    refine hK.out _ _ ⟨⟨((cell_far (p := ⟨g3, _, none⟩) NB5_3.out _).trans ((cell_far (p := ⟨g3, _, none⟩) NB5_3.out _).trans ((cell_far (p := ⟨g3, _, none⟩) NB5_3.out _).trans ((cell_far (p := ⟨g3, _, none⟩) NB5_3.out _).trans hHeld.1.1)))), ((cell_far (p := ⟨g3, _, none⟩) NB5_3.out _).trans ((cell_far (p := ⟨g3, _, none⟩) NB5_3.out _).trans ((cell_far (p := ⟨g3, _, none⟩) NB5_3.out _).trans ((cell_far (p := ⟨g3, _, none⟩) NB5_3.out _).trans hHeld.1.2))))⟩, ((cell_far (p := ⟨g3, _, none⟩) NB6_3.out _).trans ((cell_far (p := ⟨g3, _, none⟩) NB6_3.out _).trans ((cell_far (p := ⟨g3, _, none⟩) NB6_3.out _).trans ((cell_far (p := ⟨g3, _, none⟩) NB6_3.out _).trans hHeld.2.1)))), ((cell_far (p := ⟨g3, _, none⟩) NB6_3.out _).trans ((cell_far (p := ⟨g3, _, none⟩) NB6_3.out _).trans ((cell_far (p := ⟨g3, _, none⟩) NB6_3.out _).trans ((cell_far (p := ⟨g3, _, none⟩) NB6_3.out _).trans hHeld.2.2.1)))), ((cell_far (p := ⟨g3, _, none⟩) NB6_3.out _).trans ((cell_far (p := ⟨g3, _, none⟩) NB6_3.out _).trans ((cell_far (p := ⟨g3, _, none⟩) NB6_3.out _).trans ((cell_far (p := ⟨g3, _, none⟩) NB6_3.out _).trans hHeld.2.2.2.1)))), ((cell_far (p := ⟨g3, _, none⟩) NB6_3.out _).trans ((cell_far (p := ⟨g3, _, none⟩) NB6_3.out _).trans ((cell_far (p := ⟨g3, _, none⟩) NB6_3.out _).trans ((cell_far (p := ⟨g3, _, none⟩) NB6_3.out _).trans hHeld.2.2.2.2))))⟩ (fun hHeld => ?_)
    clear hK K
    refine done_ (by kernel_rfl) ?_
    try go_wp2
    refine bodyPost_ret (results_cc rfl _ _ g2 g3 26 29 #[.int .i64 fg, .slice Ax xs.length cx] #[.slice A3_ al.length c3_, .int .i64 aS, .int .i64 aE, .string aN] (0, 0) (0, 0) _ _ rfl (set4_far (b0 := (.slice A3_ al.length c3_)) (b1 := (.int .i64 aS)) (b2 := (.int .i64 aE)) (b3 := (.string aN)) BK2.out NB2_3.out) Try.underlying26 rfl (by kernel_rfl) rfl (set4_blk (b0 := (.slice A3_ al.length c3_)) (b1 := (.int .i64 aS)) (b2 := (.int .i64 aE)) (b3 := (.string aN)) BK3.out) Try.underlying29 rfl (by kernel_rfl)) rfl ?_
    exact ⟨_, _, rfl, Kd.S_mono (Kd.S_far (p := ⟨g3, 3, none⟩) (Kd.S_far (p := ⟨g3, 2, none⟩) (Kd.S_far (p := ⟨g3, 1, none⟩) (Kd.S_far (p := ⟨g3, 0, none⟩) HO.out (fun _ hk => hk.1) (.slice A3_ al.length c3_)) (fun _ hk => hk.1) (.int .i64 aS)) (fun _ hk => hk.1) (.int .i64 aE)) (fun _ hk => hk.1) (.string aN)) (fun _ _ => trivial), Kd.R_mono (Kd.R_far (p := ⟨g3, 3, none⟩) (Kd.R_far (p := ⟨g3, 2, none⟩) (Kd.R_far (p := ⟨g3, 1, none⟩) (Kd.R_far (p := ⟨g3, 0, none⟩) (Kd.R_types HL.out BK3.out (by decide)) (fun _ hk => hk.2) (.slice A3_ al.length c3_)) (fun _ hk => hk.2) (.int .i64 aS)) (fun _ hk => hk.2) (.int .i64 aE)) (fun _ hk => hk.2) (.string aN)) (fun _ _ => trivial), set4_below (b0 := (.slice A3_ al.length c3_)) (b1 := (.int .i64 aS)) (b2 := (.int .i64 aE)) (b3 := (.string aN)) HB.out GE3.out⟩
  · rw [if_neg c1] at H
    obtain ⟨⟨t, j3, s3⟩, A50, H0⟩ := bs_ H
    dsimp only at A50 H0
    have A5 := aM A50
    clear A50 H
    have cb0 : decide (0 < (xs.length : Int)) = true := decide_eq_true (by omega)
    have cb1 : decide (0 < xs.length) = true := decide_eq_true (by omega)
    have cb2 : (0 < xs.length) = True := eq_true (by omega)
    have C1 := aM c1
    have HH := aM H0
    clear c1 H0
    cases t with
    | false =>
      have H := HH.out
      rw [if_neg (show ¬ (false = true) by decide)] at H
      simp only [Option.some.injEq, Prod.mk.injEq] at H
      obtain ⟨rfl, rfl, rfl, rfl, rfl, rfl⟩ := H
      clear HH
      go_wp2_with (fail)
      refine (spec_l1Once.calls gc b j2 s2 2 _ j3 s3 w _ HI0.out HB.out A5.out).mono ?_
      rintro e w9 ⟨rfl, hi, hb, hk⟩
      replace HO := aM (Kd.S_mono (Kd.S_keep (IsS67.apartS HI0.out HO.out (by decide)) hk (fun _ h => h.2)) (fun _ h => h.1))
      replace HL := aM (Kd.R_mono (Kd.R_keep (IsS67.apart HI0.out HL.out (by decide)) hk (fun _ h => h.2)) (fun _ h => h.1))
      replace BK2 := aM (KeepBut.blk hk (g' := g2) BK2.out NBc_2.out.symm (by simp))
      replace BK3 := aM (KeepBut.blk hk (g' := g3) BK3.out NBc_3.out.symm (by simp))
      replace B5 := aM (KeepBut.blk hk (g' := g5) B5.out NBc_5.out.symm (by simp))
      replace B6 := aM (KeepBut.blk hk (g' := g6) B6.out NBc_6.out.symm (by simp))
      replace HI0 := aM (hi)
      replace HB := aM (hb)
      clear hi hb hk z0 z1
      obtain ⟨z0, z1⟩ := zc2 B5
      go_wp2
      refine start_ (n := 4) (S := fun w' => (w'.cell? ⟨g5, 0, none⟩ = some (.int .i64 fg) ∧ w'.cell? ⟨g5, 1, none⟩ = some (.slice Ax xs.length cx)) ∧ w'.cell? ⟨g6, 0, none⟩ = some (.slice A3_ al.length c3_) ∧ w'.cell? ⟨g6, 1, none⟩ = some (.int .i64 aS) ∧ w'.cell? ⟨g6, 2, none⟩ = some (.int .i64 aE) ∧ w'.cell? ⟨g6, 3, none⟩ = some (.string aN)) (ds := []) (bz 4 0) (by kernel_rfl) rfl (by kernel_rfl) ⟨zc2 B5, zc4 B6⟩ (fun hHeld => ?_)
      replace HO := aM (Kd.S_drew HO.out)
      replace HL := aM (Kd.R_drew HL.out)
      replace BK2 := aM (blk_drew BK2.out)
      replace BK3 := aM (blk_drew BK3.out)
      replace HB := aM (below_drew1 HB.out)
      generalize w9.drew = wd at HO HL BK2 BK3 HB hHeld ⊢
      refine tA_ 0 (some 34) (bz 4 1) ?_ ?_ hHeld ?_ ?_ ?_
      rotate_left
      · rintro w' ⟨⟨s0, s1⟩, s2, s3, s4, s5⟩
        go_simp
        with_reducible rfl
      rotate_left
      · simp only [u6_]
        rfl
      refine tA_ 1 (some 35) (bz 4 3) ?_ ?_ hHeld ?_ ?_ ?_
      rotate_left
      · rintro w' ⟨⟨s0, s1⟩, s2, s3, s4, s5⟩
        go_simp
        with_reducible rfl
      rotate_left
      · simp only [u6_]
        rfl
      refine one_ (i := 2) (N := none) (bz 4 7) rfl rfl (by kernel_rfl) (by decide) (fun K hK => ?_)
      obtain ⟨hs0, hs1⟩ := zc2 BK2
      have hfs := zf BK2
      refine skip_ (w1 := ?_) (by rfl) rfl ?_ ?_
      rotate_left
      · go_simp
        rfl
      clear hs0 hs1 hfs
      refine hK.out _ _ ⟨⟨((cell_far (p := ⟨g2, _, none⟩) NB5_2.out _).trans ((cell_far (p := ⟨g2, _, none⟩) NB5_2.out _).trans hHeld.1.1)), ((cell_far (p := ⟨g2, _, none⟩) NB5_2.out _).trans ((cell_far (p := ⟨g2, _, none⟩) NB5_2.out _).trans hHeld.1.2))⟩, ((cell_far (p := ⟨g2, _, none⟩) NB6_2.out _).trans ((cell_far (p := ⟨g2, _, none⟩) NB6_2.out _).trans hHeld.2.1)), ((cell_far (p := ⟨g2, _, none⟩) NB6_2.out _).trans ((cell_far (p := ⟨g2, _, none⟩) NB6_2.out _).trans hHeld.2.2.1)), ((cell_far (p := ⟨g2, _, none⟩) NB6_2.out _).trans ((cell_far (p := ⟨g2, _, none⟩) NB6_2.out _).trans hHeld.2.2.2.1)), ((cell_far (p := ⟨g2, _, none⟩) NB6_2.out _).trans ((cell_far (p := ⟨g2, _, none⟩) NB6_2.out _).trans hHeld.2.2.2.2))⟩ (fun hHeld => ?_)
      clear hK K
      replace HO := aM (Kd.S_mono (Kd.S_far (p := ⟨g2, 1, none⟩) (Kd.S_far (p := ⟨g2, 0, none⟩) (Kd.S_types HO.out BK2.out (by decide)) (fun _ hk => hk.2) (.int .i64 fg)) (fun _ hk => hk.2) (.slice Ax xs.length cx)) (fun _ hk => hk.1))
      replace HL := aM (Kd.R_mono (Kd.R_far (p := ⟨g2, 1, none⟩) (Kd.R_far (p := ⟨g2, 0, none⟩) (Kd.R_types HL.out BK2.out (by decide)) (fun _ hk => hk.2) (.int .i64 fg)) (fun _ hk => hk.2) (.slice Ax xs.length cx)) (fun _ hk => trivial))
      replace BK2 := aM (set2_blk (b0 := (.int .i64 fg)) (b1 := (.slice Ax xs.length cx)) BK2.out)
      replace BK3 := aM (set2_far (b0 := (.int .i64 fg)) (b1 := (.slice Ax xs.length cx)) BK3.out NB2_3.out.symm)
      replace HB := aM (set2_below (b0 := (.int .i64 fg)) (b1 := (.slice Ax xs.length cx)) HB.out GE2.out)
      generalize ((wd.setCell ⟨g2, 0, none⟩ (.int .i64 fg)).setCell ⟨g2, 1, none⟩ (.slice Ax xs.length cx)) = we at HO HL BK2 BK3 HB hHeld ⊢
      refine one_ (i := 3) (N := none) (bz 4 15) rfl rfl (by kernel_rfl) (by decide) (fun K hK => ?_)
      obtain ⟨hs0, hs1, hs2, hs3⟩ := zc4 BK3
      have hfs := zf BK3
      refine skip_ (w1 := ?_) (by rfl) rfl ?_ ?_
      rotate_left
      · go_simp
        rfl
      clear hs0 hs1 hs2 hs3 hfs
      refine hK.out _ _ ⟨⟨((cell_far (p := ⟨g3, _, none⟩) NB5_3.out _).trans ((cell_far (p := ⟨g3, _, none⟩) NB5_3.out _).trans ((cell_far (p := ⟨g3, _, none⟩) NB5_3.out _).trans ((cell_far (p := ⟨g3, _, none⟩) NB5_3.out _).trans hHeld.1.1)))), ((cell_far (p := ⟨g3, _, none⟩) NB5_3.out _).trans ((cell_far (p := ⟨g3, _, none⟩) NB5_3.out _).trans ((cell_far (p := ⟨g3, _, none⟩) NB5_3.out _).trans ((cell_far (p := ⟨g3, _, none⟩) NB5_3.out _).trans hHeld.1.2))))⟩, ((cell_far (p := ⟨g3, _, none⟩) NB6_3.out _).trans ((cell_far (p := ⟨g3, _, none⟩) NB6_3.out _).trans ((cell_far (p := ⟨g3, _, none⟩) NB6_3.out _).trans ((cell_far (p := ⟨g3, _, none⟩) NB6_3.out _).trans hHeld.2.1)))), ((cell_far (p := ⟨g3, _, none⟩) NB6_3.out _).trans ((cell_far (p := ⟨g3, _, none⟩) NB6_3.out _).trans ((cell_far (p := ⟨g3, _, none⟩) NB6_3.out _).trans ((cell_far (p := ⟨g3, _, none⟩) NB6_3.out _).trans hHeld.2.2.1)))), ((cell_far (p := ⟨g3, _, none⟩) NB6_3.out _).trans ((cell_far (p := ⟨g3, _, none⟩) NB6_3.out _).trans ((cell_far (p := ⟨g3, _, none⟩) NB6_3.out _).trans ((cell_far (p := ⟨g3, _, none⟩) NB6_3.out _).trans hHeld.2.2.2.1)))), ((cell_far (p := ⟨g3, _, none⟩) NB6_3.out _).trans ((cell_far (p := ⟨g3, _, none⟩) NB6_3.out _).trans ((cell_far (p := ⟨g3, _, none⟩) NB6_3.out _).trans ((cell_far (p := ⟨g3, _, none⟩) NB6_3.out _).trans hHeld.2.2.2.2))))⟩ (fun hHeld => ?_)
      clear hK K
      refine done_ (by kernel_rfl) ?_
      try go_wp2
      refine bodyPost_ret (results_cc rfl _ _ g2 g3 26 29 #[.int .i64 fg, .slice Ax xs.length cx] #[.slice A3_ al.length c3_, .int .i64 aS, .int .i64 aE, .string aN] (0, 0) (0, 0) _ _ rfl (set4_far (b0 := (.slice A3_ al.length c3_)) (b1 := (.int .i64 aS)) (b2 := (.int .i64 aE)) (b3 := (.string aN)) BK2.out NB2_3.out) Try.underlying26 rfl (by kernel_rfl) rfl (set4_blk (b0 := (.slice A3_ al.length c3_)) (b1 := (.int .i64 aS)) (b2 := (.int .i64 aE)) (b3 := (.string aN)) BK3.out) Try.underlying29 rfl (by kernel_rfl)) rfl ?_
      exact ⟨_, _, rfl, Kd.S_mono (Kd.S_far (p := ⟨g3, 3, none⟩) (Kd.S_far (p := ⟨g3, 2, none⟩) (Kd.S_far (p := ⟨g3, 1, none⟩) (Kd.S_far (p := ⟨g3, 0, none⟩) HO.out (fun _ hk => hk.1) (.slice A3_ al.length c3_)) (fun _ hk => hk.1) (.int .i64 aS)) (fun _ hk => hk.1) (.int .i64 aE)) (fun _ hk => hk.1) (.string aN)) (fun _ _ => trivial), Kd.R_mono (Kd.R_far (p := ⟨g3, 3, none⟩) (Kd.R_far (p := ⟨g3, 2, none⟩) (Kd.R_far (p := ⟨g3, 1, none⟩) (Kd.R_far (p := ⟨g3, 0, none⟩) (Kd.R_types HL.out BK3.out (by decide)) (fun _ hk => hk.2) (.slice A3_ al.length c3_)) (fun _ hk => hk.2) (.int .i64 aS)) (fun _ hk => hk.2) (.int .i64 aE)) (fun _ hk => hk.2) (.string aN)) (fun _ _ => trivial), set4_below (b0 := (.slice A3_ al.length c3_)) (b1 := (.int .i64 aS)) (b2 := (.int .i64 aE)) (b3 := (.string aN)) HB.out GE3.out⟩
    | true =>
      have H := HH.out
      rw [if_pos rfl] at H
      obtain ⟨⟨n, j4, s4⟩, A60, H0⟩ := bs_ H
      dsimp only at A60 H0
      have A6 := aM A60
      clear A60 HH H
      by_cases c2 : 0 ≤ n ∧ n < (xs.length : Int) ∧ (rd_T29 xs n).f0.length < 4398046511104
      case neg => rw [if_neg c2] at H0; exact absurd H0 (by simp)
      rw [if_pos c2] at H0
      simp only [Option.some.injEq, Prod.mk.injEq] at H0
      obtain ⟨rfl, rfl, rfl, rfl, rfl, rfl⟩ := H0
      have C2 := aM c2
      clear c2
      go_wp2_with (fail)
      refine (spec_l1Once.calls gc b j2 s2 2 _ j3 s3 w _ HI0.out HB.out A5.out).mono ?_
      rintro e w9 ⟨rfl, hi, hb, hk⟩
      replace HO := aM (Kd.S_mono (Kd.S_keep (IsS67.apartS HI0.out HO.out (by decide)) hk (fun _ h => h.2)) (fun _ h => h.1))
      replace HL := aM (Kd.R_mono (Kd.R_keep (IsS67.apart HI0.out HL.out (by decide)) hk (fun _ h => h.2)) (fun _ h => h.1))
      replace BK2 := aM (KeepBut.blk hk (g' := g2) BK2.out NBc_2.out.symm (by simp))
      replace BK3 := aM (KeepBut.blk hk (g' := g3) BK3.out NBc_3.out.symm (by simp))
      replace B5 := aM (KeepBut.blk hk (g' := g5) B5.out NBc_5.out.symm (by simp))
      replace B6 := aM (KeepBut.blk hk (g' := g6) B6.out NBc_6.out.symm (by simp))
      replace HI0 := aM (hi)
      replace HB := aM (hb)
      clear hi hb hk z0 z1
      obtain ⟨z0, z1⟩ := zc2 B5
      go_wp2
      have hC := (Kd.S_reads' HO.out).2.2
      obtain ⟨ga, cp, hv1, _, _, ct, hbk⟩ := Kd.S_form HO.out (by have := C1.out; omega)
      injection hv1 with hv1 hv2 hv3
      subst hv1
      subst hv3
      clear hv2 hbk
      obtain ⟨ad, Ai, ci, ea, hx0, _, _, _, hli, _⟩ := at_T29 hC n C2.out.1 C2.out.2.1
      obtain rfl : (⟨ga, 0, none⟩ : Addr) = ad := by injection ea
      rw [Addr.add_lit, Nat.zero_add] at hx0
      have p0t : (0 ≤ n) = True := eq_true C2.out.1
      have q0t : (n < (xs.length : Int)) = True := eq_true C2.out.2.1
      clear hC hli ea HL
      refine start_ (n := 14) (S := fun w' => w'.cell? ⟨g5, 0, none⟩ = some (.int .i64 fg) ∧ w'.cell? ⟨g5, 1, none⟩ = some (.slice (some ⟨ga, 0, none⟩) xs.length cx) ∧ w'.cell? ⟨ga, n.toNat * 4, none⟩ = some (.slice Ai (rd_T29 xs n).f0.length ci)) (ds := []) (bz 14 0) (by kernel_rfl) rfl (by kernel_rfl) ⟨z0, z1, hx0⟩ (fun hHeld => ?_)
      clear hx0 z0 z1
      replace HO := aM (Kd.S_drew HO.out)
      replace HI0 := aM (IsS67.drew HI0.out)
      replace BK2 := aM (blk_drew BK2.out)
      replace BK3 := aM (blk_drew BK3.out)
      replace B5 := aM (blk_drew B5.out)
      replace B6 := aM (blk_drew B6.out)
      replace HB := aM (below_drew1 HB.out)
      generalize w9.drew = wd at HO HI0 BK2 BK3 B5 B6 HB hHeld ⊢
      refine pA_ 1 (some 22) (bz 14 2) ?_ ?_ ?_ ?_ ?_
      rotate_left
      · intro w'
        go_simp
        with_reducible rfl
      rotate_left
      · simp only [u6_]
        rfl
      refine tA_ 2 (some 23) (bz 14 6) ?_ ?_ hHeld ?_ ?_ ?_
      rotate_left
      · rintro w' ⟨s0, s1, s2⟩
        go_simp
        with_reducible rfl
      rotate_left
      · simp only [u6_]
        rfl
      refine pA_ 3 (some 24) (bz 14 14) ?_ ?_ ?_ ?_ ?_
      rotate_left
      · intro w'
        go_simp
        with_reducible rfl
      rotate_left
      · simp only [u6_]
        rfl
      refine pA_ 4 (some 25) (bz 14 30) ?_ ?_ ?_ ?_ ?_
      rotate_left
      · intro w'
        go_simp
        with_reducible rfl
      rotate_left
      · simp only [u6_]
        rfl
      refine tA_ 5 (some 26) (bz 14 62) ?_ ?_ hHeld ?_ ?_ ?_
      rotate_left
      · rintro w' ⟨s0, s1, s2⟩
        go_simp
        with_reducible rfl
      rotate_left
      · simp only [u6_]
        rfl
      refine pA_ 6 (some 27) (bz 14 126) ?_ ?_ ?_ ?_ ?_
      rotate_left
      · intro w'
        go_simp
        with_reducible rfl
      rotate_left
      · simp only [u6_]
        rfl
      refine join_ (σ := Value) 3 (bz 14 2047) (fun s_ => [(21, s_), (28, .int .i64 n), (29, .pointer (some ⟨ga, n.toNat * 4, none⟩)), (30, .pointer (some ⟨ga, n.toNat * 4, none⟩)), (31, .slice Ai (rd_T29 xs n).f0.length ci)]) (fun s_ w' => (w'.cell? ⟨g5, 0, none⟩ = some (.int .i64 fg) ∧ w'.cell? ⟨g5, 1, none⟩ = some (.slice (some ⟨ga, 0, none⟩) xs.length cx) ∧ w'.cell? ⟨ga, n.toNat * 4, none⟩ = some (.slice Ai (rd_T29 xs n).f0.length ci)) ∧ Kd.R k76 76 w' w.heap.size (fun _ => True) s_ [] ∧ Kd.S k29 29 w' w.heap.size (fun k_ => (k_ ≠ g3 ∧ k_ ≠ g6) ∧ some k_ ≠ s_.ownBlock) (.slice (some ⟨ga, 0, none⟩) xs.length cx) xs ∧ w'.heap[g2]? = some (.cells #[.int .i64 0, .slice none 0 0] 26 (0, 0)) ∧ w'.heap[g3]? = some (.cells #[.slice none 0 0, .int .i64 0, .int .i64 0, .string (⟨#[]⟩ : ByteArray)] 29 (0, 0)) ∧ w'.heap[g5]? = some (.cells #[.int .i64 fg, .slice (some ⟨ga, 0, none⟩) xs.length cx] 26 (0, 0)) ∧ w'.heap[g6]? = some (.cells #[.slice A3_ al.length c3_, .int .i64 aS, .int .i64 aE, .string aN] 29 (0, 0)) ∧ Below w.heap.size w w') ?_ ?_
      rotate_left
      · intro hCont
        refine two_ (i := 0) (j := 7) (Ni := some 21) (Nj := some 28) (bz 14 127) (bz 14 254) rfl rfl rfl rfl (by kernel_rfl) (by decide) (by decide) (fun K hK => ?_) (fun K hK => ?_)
        · skip
          refine Kd.R_lit_step k76 _ 76 rfl (N := 21) rfl (xs := ([] : List (S76))) (inner := []) (ok := fun _ => True) (okp := fun _ => True) gs ?hp (fun _ hk => hk) trivial (Below.refl _ _) (Nat.le_refl _) (by simp) ?_; (case hp => exact (Reps.none _ _))
          intro v19 wl ho hb hg_ hn_; clear hg_
          obtain ⟨b19, hv19, hb19⟩ := hn_
          have H19 := aM (Kd.R_lower ho HB.out.size)
          have nh := pw_cell_below hb hHeld.2.2
          replace HO := aM (Kd.S_elder' (v := v19) HO.out (fun k_ hk => by rw [hv19] at hk; cases hk; exact hb19) hb)
          replace HI0 := aM (IsS67.below HI0.out hb)
          replace BK2 := aM (blk_below BK2.out hb)
          replace BK3 := aM (blk_below BK3.out hb)
          replace B5 := aM (blk_below B5.out hb)
          replace B6 := aM (blk_below B6.out hb)
          replace HB := aM (below_step HB.out hb)
          clear hb ho
          refine hK.out _ _ ⟨(zc2 B5).1, (zc2 B5).2, nh⟩ (fun hHeld => ?_)
          clear hK K nh
          refine norm_ (a' := ?_) ?_ ?_
          rotate_left
          · show Act.put _ (some 21) _ = _
            simp only [u6_]
            rfl
          refine one_ (i := 7) (N := some 28) (bz 14 255) rfl rfl (by kernel_rfl) (by decide) (fun K hK => ?_)
          refine goes_ Try.func27 (by kernel_rfl) rfl #[.pointer (some ⟨gc, 0, none⟩), .int .i64 (xs.length : Int)] (by rfl) rfl rfl mp ?_
          with_reducible refine (spec_l1Below.calls gc b j3 s3 (xs.length : Int) n j4 s4 w _ ?side1 ?side2 A6.out).mono ?_
          (case side1 => exact HI0.out)
          (case side2 => exact HB.out)
          rintro e wc ⟨rfl, hi, hb, hk⟩
          refine ⟨_, rfl, ?_⟩
          obtain ⟨ga', cp', e', _, hlt, ct', hbk'⟩ := Kd.S_form HO.out (by have := C1.out; omega)
          obtain rfl : ga = ga' := by injection e' with e1; injection e1 with e1; injection e1
          have nh := (World.cell?_of_block (a := ⟨ga, n.toNat * 4, none⟩) (hk.2 ga hlt (IsS67.ne_blk HI0.out hbk' (by decide)).symm (by simp))).trans hHeld.2.2
          clear e' hlt hbk'
          replace HO := aM (Kd.S_mono (Kd.S_keep (IsS67.apartS HI0.out HO.out (by decide)) hk (fun _ h => h.2)) (fun _ h => h.1))
          replace H19 := aM (Kd.R_mono (Kd.R_keep (IsS67.apart HI0.out H19.out (by decide)) hk (fun _ h => h.2)) (fun _ h => h.1))
          replace BK2 := aM (KeepBut.blk hk (g' := g2) BK2.out NBc_2.out.symm (by simp))
          replace BK3 := aM (KeepBut.blk hk (g' := g3) BK3.out NBc_3.out.symm (by simp))
          replace B5 := aM (KeepBut.blk hk (g' := g5) B5.out NBc_5.out.symm (by simp))
          replace B6 := aM (KeepBut.blk hk (g' := g6) B6.out NBc_6.out.symm (by simp))
          replace HI0 := aM (hi)
          replace HB := aM (hb)
          clear hi hb hk
          refine hK.out _ _ ⟨(zc2 B5).1, (zc2 B5).2, nh⟩ (fun hHeld => ?_)
          clear hK K nh
          refine norm_ (a' := ?_) ?_ ?_
          rotate_left
          · show Act.put _ (some 28) _ = _
            simp only [u6_]
            rfl
          refine pA_ 8 (some 29) (bz 14 511) ?_ ?_ ?_ ?_ ?_
          rotate_left
          · intro w'
            go_simp
            with_reducible rfl
          rotate_left
          · simp only [u6_]
            rfl
          refine pA_ 9 (some 30) (bz 14 1023) ?_ ?_ ?_ ?_ ?_
          rotate_left
          · intro w'
            go_simp
            with_reducible rfl
          rotate_left
          · simp only [u6_]
            rfl
          refine tA_ 10 (some 31) (bz 14 2047) ?_ ?_ hHeld ?_ ?_ ?_
          rotate_left
          · rintro w' ⟨s0, s1, s2⟩
            go_simp
            with_reducible rfl
          rotate_left
          · simp only [u6_]
            rfl
          exact norm_ (by simp only [putAll, Act.put, List.setIfInBounds_toArray, List.set_cons_zero, List.set_cons_succ]) (hCont v19 _ ⟨⟨(zc2 B5).1, (zc2 B5).2, hHeld.2.2⟩, H19.out, HO.out, BK2.out, BK3.out, B5.out, B6.out, HB.out⟩)
        · skip
          refine goes_ Try.func27 (by kernel_rfl) rfl #[.pointer (some ⟨gc, 0, none⟩), .int .i64 (xs.length : Int)] (by rfl) rfl rfl mp ?_
          with_reducible refine (spec_l1Below.calls gc b j3 s3 (xs.length : Int) n j4 s4 w _ ?side1 ?side2 A6.out).mono ?_
          (case side1 => exact HI0.out)
          (case side2 => exact HB.out)
          rintro e wc ⟨rfl, hi, hb, hk⟩
          refine ⟨_, rfl, ?_⟩
          obtain ⟨ga', cp', e', _, hlt, ct', hbk'⟩ := Kd.S_form HO.out (by have := C1.out; omega)
          obtain rfl : ga = ga' := by injection e' with e1; injection e1 with e1; injection e1
          have nh := (World.cell?_of_block (a := ⟨ga, n.toNat * 4, none⟩) (hk.2 ga hlt (IsS67.ne_blk HI0.out hbk' (by decide)).symm (by simp))).trans hHeld.2.2
          clear e' hlt hbk'
          replace HO := aM (Kd.S_mono (Kd.S_keep (IsS67.apartS HI0.out HO.out (by decide)) hk (fun _ h => h.2)) (fun _ h => h.1))
          replace BK2 := aM (KeepBut.blk hk (g' := g2) BK2.out NBc_2.out.symm (by simp))
          replace BK3 := aM (KeepBut.blk hk (g' := g3) BK3.out NBc_3.out.symm (by simp))
          replace B5 := aM (KeepBut.blk hk (g' := g5) B5.out NBc_5.out.symm (by simp))
          replace B6 := aM (KeepBut.blk hk (g' := g6) B6.out NBc_6.out.symm (by simp))
          replace HI0 := aM (hi)
          replace HB := aM (hb)
          clear hi hb hk
          refine hK.out _ _ ⟨(zc2 B5).1, (zc2 B5).2, nh⟩ (fun hHeld => ?_)
          clear hK K nh
          refine norm_ (a' := ?_) ?_ ?_
          rotate_left
          · show Act.put _ (some 28) _ = _
            simp only [u6_]
            rfl
          refine pA_ 8 (some 29) (bz 14 510) ?_ ?_ ?_ ?_ ?_
          rotate_left
          · intro w'
            go_simp
            with_reducible rfl
          rotate_left
          · simp only [u6_]
            rfl
          refine pA_ 9 (some 30) (bz 14 1022) ?_ ?_ ?_ ?_ ?_
          rotate_left
          · intro w'
            go_simp
            with_reducible rfl
          rotate_left
          · simp only [u6_]
            rfl
          refine tA_ 10 (some 31) (bz 14 2046) ?_ ?_ hHeld ?_ ?_ ?_
          rotate_left
          · rintro w' ⟨s0, s1, s2⟩
            go_simp
            with_reducible rfl
          rotate_left
          · simp only [u6_]
            rfl
          refine one_ (i := 0) (N := some 21) (bz 14 2047) rfl rfl (by kernel_rfl) (by decide) (fun K hK => ?_)
          refine Kd.R_lit_step k76 _ 76 rfl (N := 21) rfl (xs := ([] : List (S76))) (inner := []) (ok := fun _ => True) (okp := fun _ => True) gs ?hp (fun _ hk => hk) trivial (Below.refl _ _) (Nat.le_refl _) (by simp) ?_; (case hp => exact (Reps.none _ _))
          intro v19 wl ho hb hg_ hn_; clear hg_
          obtain ⟨b19, hv19, hb19⟩ := hn_
          have H19 := aM (Kd.R_lower ho HB.out.size)
          have nh := pw_cell_below hb hHeld.2.2
          replace HO := aM (Kd.S_elder' (v := v19) HO.out (fun k_ hk => by rw [hv19] at hk; cases hk; exact hb19) hb)
          replace HI0 := aM (IsS67.below HI0.out hb)
          replace BK2 := aM (blk_below BK2.out hb)
          replace BK3 := aM (blk_below BK3.out hb)
          replace B5 := aM (blk_below B5.out hb)
          replace B6 := aM (blk_below B6.out hb)
          replace HB := aM (below_step HB.out hb)
          clear hb ho
          refine hK.out _ _ ⟨(zc2 B5).1, (zc2 B5).2, nh⟩ (fun hHeld => ?_)
          clear hK K nh
          refine norm_ (a' := ?_) ?_ ?_
          rotate_left
          · show Act.put _ (some 21) _ = _
            simp only [u6_]
            rfl
          exact norm_ (by simp only [putAll, Act.put, List.setIfInBounds_toArray, List.set_cons_zero, List.set_cons_succ]) (hCont v19 _ ⟨⟨(zc2 B5).1, (zc2 B5).2, hHeld.2.2⟩, H19.out, HO.out, BK2.out, BK3.out, B5.out, B6.out, HB.out⟩)
      rintro v19 wj ⟨hHeld, h19, hO, h2, h3, h5, h6, hB⟩
      clear HO HI0 BK2 BK3 B5 B6 HB
      have H19 := aM h19
      have HO := aM hO
      have BK2 := aM h2
      have BK3 := aM h3
      have B5 := aM h5
      have B6 := aM h6
      have HB := aM hB
      clear h19 hO h2 h3 h5 h6 hB
      refine norm_ (a' := ?_) ?_ ?_
      rotate_left
      · simp only [putAll, Act.put, List.setIfInBounds_toArray, List.set_cons_zero, List.set_cons_succ]
        rfl
      refine one_ (i := 11) (N := some 32) (bz 14 4095) rfl rfl (by kernel_rfl) (by decide) (fun K hK => ?_)
      have C2b := C2.out.2.2
      obtain ⟨ad', Ai', ci', ea', hx', _, _, _, _, hCi⟩ := at_T29 (Kd.S_reads' HO.out).2.2 n C2.out.1 C2.out.2.1
      obtain rfl : (⟨ga, 0, none⟩ : Addr) = ad' := by injection ea'
      rw [Addr.add_lit, Nat.zero_add] at hx'
      have e_ := Option.some.inj (hx'.symm.trans hHeld.2.2)
      injection e_ with e1 e2 e3
      subst e1
      subst e3
      have HCi := aM hCi
      clear hCi hx' e2 ea'
      refine Kd.R_append_rows_step k76 (w0 := w) (Rr := k76.K wj) w.heap.size rfl (.tmp 21) (.tmp 31) 27 76 (.agg #[(.string ⟨#[]⟩), (.string ⟨#[]⟩)]) 32 rfl Try.underlying27 info76 rfl (by decide) (by omega) v19 [] (rd_T29 xs n).f0 _ _ _ (fun _ => True) (fun _ => False) rfl rfl H19.out HCi.out (fun x_ cs_ hK_ => by rw [k76_open hK_]; exact k76_mkM _ _ _ x_) (fun _ h => h.elim) (fun _ _ => trivial) HB.out HB.out.size (by simp only [List.length_nil]; omega) ?_
      intro v30 wS ho hb hg hat_
      rw [List.nil_append] at ho
      have HL := aM ho
      obtain ⟨ga', cp', e', _, hlt, ct', hbk'⟩ := Kd.S_form HO.out (by have := C1.out; omega)
      obtain rfl : ga = ga' := by injection e' with e1; injection e1 with e1; injection e1
      have NBa6 := aM (show ga ≠ g6 from (((Kd.S_R HO.out).1 ga rfl).1).2)
      have nh := (World.cell?_of_block (a := ⟨ga, n.toNat * 4, none⟩) (hg.block ga hlt (((Kd.S_R HO.out).1 ga rfl).2))).trans hHeld.2.2
      clear e' hlt hbk'
      replace HO := aM (Kd.S_mono (ok' := fun k_ => k_ ≠ g3 ∧ k_ ≠ g6) (Kd.S_grown HO.out hg (fun _ hk => hk.2)) (fun _ hk => hk.1))
      replace BK2 := aM (blk_grown (g := g2) BK2.out hg (Kd.R_ne H19.out BK2.out (by decide)))
      replace BK3 := aM (blk_grown (g := g3) BK3.out hg (Kd.R_ne H19.out BK3.out (by decide)))
      replace B5 := aM (blk_grown (g := g5) B5.out hg (Kd.R_ne H19.out B5.out (by decide)))
      replace B6 := aM (blk_grown (g := g6) B6.out hg (Kd.R_ne H19.out B6.out (by decide)))
      replace HB := aM (hb)
      clear H19 ho hb hg hat_
      obtain ⟨A9, c9, e9⟩ := Kd.R_slice HL.out
      subst e9
      refine hK.out _ _ ⟨(zc2 B5).1, (zc2 B5).2, nh⟩ (fun hHeld => ?_)
      clear hK K nh
      refine norm_ (a' := ?_) ?_ ?_
      rotate_left
      · show Act.put _ (some 32) _ = _
        simp only [u6_]
        rfl
      refine pA_ 12 (some 33) (bz 14 8191) ?_ ?_ ?_ ?_ ?_
      rotate_left
      · intro w'
        go_simp
        with_reducible rfl
      rotate_left
      · simp only [u6_]
        rfl
      refine one_ (i := 13) (N := none) (bz 14 16383) rfl rfl (by kernel_rfl) (by decide) (fun K hK => ?_)
      obtain ⟨hs0, hs1, hs2, hs3⟩ := zc4 B6
      have hfs := zf B6
      refine skip_ (w1 := ?_) (by rfl) rfl ?_ ?_
      rotate_left
      · go_simp
        rfl
      clear hs0 hs1 hs2 hs3 hfs
      refine hK.out _ _ ⟨(cell_far (p := ⟨g6, _, none⟩) NB6_5.out.symm _).trans hHeld.1, (cell_far (p := ⟨g6, _, none⟩) NB6_5.out.symm _).trans hHeld.2.1, (cell_far (p := ⟨g6, _, none⟩) NBa6.out _).trans hHeld.2.2⟩ (fun hHeld => ?_)
      clear hK K
      clear hHeld
      replace HO := aM (Kd.S_far (p := ⟨g6, 0, none⟩) HO.out (fun _ hk => hk.2) (.slice A9 (rd_T29 xs n).f0.length c9))
      replace HL := aM (Kd.R_mono (Kd.R_far (p := ⟨g6, 0, none⟩) (Kd.R_types HL.out B6.out (by decide)) (fun _ hk => hk.2) (.slice A9 (rd_T29 xs n).f0.length c9)) (fun _ _ => trivial))
      replace BK2 := aM ((Below.heap_setCell wS ⟨g6, 0, none⟩ (.slice A9 (rd_T29 xs n).f0.length c9) g2 NB6_2.out.symm).trans BK2.out)
      replace BK3 := aM ((Below.heap_setCell wS ⟨g6, 0, none⟩ (.slice A9 (rd_T29 xs n).f0.length c9) g3 NB6_3.out.symm).trans BK3.out)
      replace B5 := aM ((Below.heap_setCell wS ⟨g6, 0, none⟩ (.slice A9 (rd_T29 xs n).f0.length c9) g5 NB6_5.out.symm).trans B5.out)
      replace B6 := aM (blk_put B6.out 0 (.slice A9 (rd_T29 xs n).f0.length c9) rfl)
      replace HB := aM (below_set (j := 0) (v := (.slice A9 (rd_T29 xs n).f0.length c9)) HB.out GE6.out)
      generalize wS.setCell ⟨g6, 0, none⟩ (.slice A9 (rd_T29 xs n).f0.length c9) = wt at HO HL BK2 BK3 B5 B6 HB ⊢
      refine done_ (by kernel_rfl) ?_
      obtain ⟨z0, z1⟩ := zc2 B5
      go_wp2
      refine start_ (n := 4) (S := fun w' => (w'.cell? ⟨g5, 0, none⟩ = some (.int .i64 fg) ∧ w'.cell? ⟨g5, 1, none⟩ = some (.slice (some ⟨ga, 0, none⟩) xs.length cx)) ∧ w'.cell? ⟨g6, 0, none⟩ = some (.slice A9 (rd_T29 xs n).f0.length c9) ∧ w'.cell? ⟨g6, 1, none⟩ = some (.int .i64 aS) ∧ w'.cell? ⟨g6, 2, none⟩ = some (.int .i64 aE) ∧ w'.cell? ⟨g6, 3, none⟩ = some (.string aN)) (ds := []) (bz 4 0) (by kernel_rfl) rfl (by kernel_rfl) ⟨zc2 B5, zc4 B6⟩ (fun hHeld => ?_)
      replace HO := aM (Kd.S_drew HO.out)
      replace HL := aM (Kd.R_drew HL.out)
      replace BK2 := aM (blk_drew BK2.out)
      replace BK3 := aM (blk_drew BK3.out)
      replace HB := aM (below_drew1 HB.out)
      generalize wt.drew = wd at HO HL BK2 BK3 HB hHeld ⊢
      refine tA_ 0 (some 34) (bz 4 1) ?_ ?_ hHeld ?_ ?_ ?_
      rotate_left
      · rintro w' ⟨⟨s0, s1⟩, s2, s3, s4, s5⟩
        go_simp
        with_reducible rfl
      rotate_left
      · simp only [u6_]
        rfl
      refine tA_ 1 (some 35) (bz 4 3) ?_ ?_ hHeld ?_ ?_ ?_
      rotate_left
      · rintro w' ⟨⟨s0, s1⟩, s2, s3, s4, s5⟩
        go_simp
        with_reducible rfl
      rotate_left
      · simp only [u6_]
        rfl
      refine one_ (i := 2) (N := none) (bz 4 7) rfl rfl (by kernel_rfl) (by decide) (fun K hK => ?_)
      obtain ⟨hs0, hs1⟩ := zc2 BK2
      have hfs := zf BK2
      refine skip_ (w1 := ?_) (by rfl) rfl ?_ ?_
      rotate_left
      · go_simp
        rfl
      clear hs0 hs1 hfs
      refine hK.out _ _ ⟨⟨((cell_far (p := ⟨g2, _, none⟩) NB5_2.out _).trans ((cell_far (p := ⟨g2, _, none⟩) NB5_2.out _).trans hHeld.1.1)), ((cell_far (p := ⟨g2, _, none⟩) NB5_2.out _).trans ((cell_far (p := ⟨g2, _, none⟩) NB5_2.out _).trans hHeld.1.2))⟩, ((cell_far (p := ⟨g2, _, none⟩) NB6_2.out _).trans ((cell_far (p := ⟨g2, _, none⟩) NB6_2.out _).trans hHeld.2.1)), ((cell_far (p := ⟨g2, _, none⟩) NB6_2.out _).trans ((cell_far (p := ⟨g2, _, none⟩) NB6_2.out _).trans hHeld.2.2.1)), ((cell_far (p := ⟨g2, _, none⟩) NB6_2.out _).trans ((cell_far (p := ⟨g2, _, none⟩) NB6_2.out _).trans hHeld.2.2.2.1)), ((cell_far (p := ⟨g2, _, none⟩) NB6_2.out _).trans ((cell_far (p := ⟨g2, _, none⟩) NB6_2.out _).trans hHeld.2.2.2.2))⟩ (fun hHeld => ?_)
      clear hK K
      replace HO := aM (Kd.S_mono (Kd.S_far (p := ⟨g2, 1, none⟩) (Kd.S_far (p := ⟨g2, 0, none⟩) (Kd.S_types HO.out BK2.out (by decide)) (fun _ hk => hk.2) (.int .i64 fg)) (fun _ hk => hk.2) (.slice (some ⟨ga, 0, none⟩) xs.length cx)) (fun _ hk => hk.1))
      replace HL := aM (Kd.R_mono (Kd.R_far (p := ⟨g2, 1, none⟩) (Kd.R_far (p := ⟨g2, 0, none⟩) (Kd.R_types HL.out BK2.out (by decide)) (fun _ hk => hk.2) (.int .i64 fg)) (fun _ hk => hk.2) (.slice (some ⟨ga, 0, none⟩) xs.length cx)) (fun _ hk => trivial))
      replace BK2 := aM (set2_blk (b0 := (.int .i64 fg)) (b1 := (.slice (some ⟨ga, 0, none⟩) xs.length cx)) BK2.out)
      replace BK3 := aM (set2_far (b0 := (.int .i64 fg)) (b1 := (.slice (some ⟨ga, 0, none⟩) xs.length cx)) BK3.out NB2_3.out.symm)
      replace HB := aM (set2_below (b0 := (.int .i64 fg)) (b1 := (.slice (some ⟨ga, 0, none⟩) xs.length cx)) HB.out GE2.out)
      generalize ((wd.setCell ⟨g2, 0, none⟩ (.int .i64 fg)).setCell ⟨g2, 1, none⟩ (.slice (some ⟨ga, 0, none⟩) xs.length cx)) = we at HO HL BK2 BK3 HB hHeld ⊢
      refine one_ (i := 3) (N := none) (bz 4 15) rfl rfl (by kernel_rfl) (by decide) (fun K hK => ?_)
      obtain ⟨hs0, hs1, hs2, hs3⟩ := zc4 BK3
      have hfs := zf BK3
      refine skip_ (w1 := ?_) (by rfl) rfl ?_ ?_
      rotate_left
      · go_simp
        rfl
      clear hs0 hs1 hs2 hs3 hfs
      refine hK.out _ _ ⟨⟨((cell_far (p := ⟨g3, _, none⟩) NB5_3.out _).trans ((cell_far (p := ⟨g3, _, none⟩) NB5_3.out _).trans ((cell_far (p := ⟨g3, _, none⟩) NB5_3.out _).trans ((cell_far (p := ⟨g3, _, none⟩) NB5_3.out _).trans hHeld.1.1)))), ((cell_far (p := ⟨g3, _, none⟩) NB5_3.out _).trans ((cell_far (p := ⟨g3, _, none⟩) NB5_3.out _).trans ((cell_far (p := ⟨g3, _, none⟩) NB5_3.out _).trans ((cell_far (p := ⟨g3, _, none⟩) NB5_3.out _).trans hHeld.1.2))))⟩, ((cell_far (p := ⟨g3, _, none⟩) NB6_3.out _).trans ((cell_far (p := ⟨g3, _, none⟩) NB6_3.out _).trans ((cell_far (p := ⟨g3, _, none⟩) NB6_3.out _).trans ((cell_far (p := ⟨g3, _, none⟩) NB6_3.out _).trans hHeld.2.1)))), ((cell_far (p := ⟨g3, _, none⟩) NB6_3.out _).trans ((cell_far (p := ⟨g3, _, none⟩) NB6_3.out _).trans ((cell_far (p := ⟨g3, _, none⟩) NB6_3.out _).trans ((cell_far (p := ⟨g3, _, none⟩) NB6_3.out _).trans hHeld.2.2.1)))), ((cell_far (p := ⟨g3, _, none⟩) NB6_3.out _).trans ((cell_far (p := ⟨g3, _, none⟩) NB6_3.out _).trans ((cell_far (p := ⟨g3, _, none⟩) NB6_3.out _).trans ((cell_far (p := ⟨g3, _, none⟩) NB6_3.out _).trans hHeld.2.2.2.1)))), ((cell_far (p := ⟨g3, _, none⟩) NB6_3.out _).trans ((cell_far (p := ⟨g3, _, none⟩) NB6_3.out _).trans ((cell_far (p := ⟨g3, _, none⟩) NB6_3.out _).trans ((cell_far (p := ⟨g3, _, none⟩) NB6_3.out _).trans hHeld.2.2.2.2))))⟩ (fun hHeld => ?_)
      clear hK K
      refine done_ (by kernel_rfl) ?_
      try go_wp2
      refine bodyPost_ret (results_cc rfl _ _ g2 g3 26 29 #[.int .i64 fg, .slice (some ⟨ga, 0, none⟩) xs.length cx] #[.slice A9 (rd_T29 xs n).f0.length c9, .int .i64 aS, .int .i64 aE, .string aN] (0, 0) (0, 0) _ _ rfl (set4_far (b0 := (.slice A9 (rd_T29 xs n).f0.length c9)) (b1 := (.int .i64 aS)) (b2 := (.int .i64 aE)) (b3 := (.string aN)) BK2.out NB2_3.out) Try.underlying26 rfl (by kernel_rfl) rfl (set4_blk (b0 := (.slice A9 (rd_T29 xs n).f0.length c9)) (b1 := (.int .i64 aS)) (b2 := (.int .i64 aE)) (b3 := (.string aN)) BK3.out) Try.underlying29 rfl (by kernel_rfl)) rfl ?_
      exact ⟨_, _, rfl, Kd.S_mono (Kd.S_far (p := ⟨g3, 3, none⟩) (Kd.S_far (p := ⟨g3, 2, none⟩) (Kd.S_far (p := ⟨g3, 1, none⟩) (Kd.S_far (p := ⟨g3, 0, none⟩) HO.out (fun _ hk => hk.1) (.slice A9 (rd_T29 xs n).f0.length c9)) (fun _ hk => hk.1) (.int .i64 aS)) (fun _ hk => hk.1) (.int .i64 aE)) (fun _ hk => hk.1) (.string aN)) (fun _ _ => trivial), Kd.R_mono (Kd.R_far (p := ⟨g3, 3, none⟩) (Kd.R_far (p := ⟨g3, 2, none⟩) (Kd.R_far (p := ⟨g3, 1, none⟩) (Kd.R_far (p := ⟨g3, 0, none⟩) (Kd.R_types HL.out BK3.out (by decide)) (fun _ hk => hk.2) (.slice A9 (rd_T29 xs n).f0.length c9)) (fun _ hk => hk.2) (.int .i64 aS)) (fun _ hk => hk.2) (.int .i64 aE)) (fun _ hk => hk.2) (.string aN)) (fun _ _ => trivial), set4_below (b0 := (.slice A9 (rd_T29 xs n).f0.length c9)) (b1 := (.int .i64 aS)) (b2 := (.int .i64 aE)) (b3 := (.string aN)) HB.out GE3.out⟩
end Go.Proofs.Ytdhignbneeapiaa.PFnChains
