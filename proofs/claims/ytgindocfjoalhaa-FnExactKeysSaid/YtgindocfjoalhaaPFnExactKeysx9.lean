/- That FnExactKeys answers true, out of what each of its calls gives; no conditions. -/
import Derived.Test.YtgindocfjoalhaaPFnExactKeysx0
import Derived.Test.YtgindocfjoalhaaPFnExactKeysx1
import Derived.Test.YtgindocfjoalhaaPFnExactKeysx2
import Derived.Test.YtgindocfjoalhaaPFnExactKeysx3
import Derived.Test.YtgindocfjoalhaaPFnExactKeysx4
import Derived.Test.YtgindocfjoalhaaPFnExactKeysx5
import Derived.Test.YtgindocfjoalhaaPFnExactKeysx6
import Derived.Test.YtgindocfjoalhaaPFnExactKeysx7
import Derived.Test.YtgindocfjoalhaaPFnExactKeysx8
namespace Go.Proofs.Ytgindocfjoalhaa.PFnExactKeys
open Go.RowKit Go.Proofs.YtgindocfjoalhaaW.PrintWords Go.Proofs.YtgindocfjoalhaaW.PrintLast Go.Proofs.YtgindocfjoalhaaW.PrintMore
attribute [local go_sem] max2_int min2_int max_two min_two max_three min_three max_four min_four   -- for this text's walks alone
set_option linter.unusedVariables false
set_option linter.unusedSimpArgs false

/-- What is told of the world stays told where only new blocks come up. -/
structure Gs (Φ : World → Prop) (W : World) : Prop where
  at_ : Φ W
  st : ∀ {V V' : World}, Below V.heap.size V V' → Φ V → Φ V'
theorem Gs.go {Φ : World → Prop} {W W' : World} (h : Gs Φ W) (hb : Below W.heap.size W W') : Gs Φ W' := ⟨h.st hb h.at_, h.st⟩
theorem Gs.add {Φ Ψ : World → Prop} {W : World} (h : Gs Φ W) (k : Gs Ψ W) : Gs (fun w => Φ w ∧ Ψ w) W := ⟨⟨h.at_, k.at_⟩, fun hb hp => ⟨h.st hb hp.1, k.st hb hp.2⟩⟩
theorem Gs.left {Φ Ψ : World → Prop} {W : World} (h : Gs Φ W) (hd : ∀ {V V' : World}, Below V.heap.size V V' → Ψ V → Ψ V') (hk : ∀ w, Φ w → Ψ w) : Gs Ψ W := ⟨hk W h.at_, hd⟩
theorem Gs.below (w : World) : Gs (fun W => Below w.heap.size w W) w := ⟨Below.refl _ _, fun hb h => below_step h hb⟩
theorem Gs.cell {a : Addr} {v : Value} {W : World} (h : W.cell? a = some v) : Gs (fun W => W.cell? a = some v) W := ⟨h, fun hb h => pw_cell_below hb h⟩
theorem Gs.row {α : Type} {d : Kd α} {A : Option Addr} {n : Nat} {xs : List α} {W : World} (h : d.C W A n xs) : Gs (fun W => d.C W A n xs) W := ⟨h, fun hb h => Kd.C_below h hb⟩
def box4 (g : Nat) (b0 b1 b2 b3 : Value) (w : World) : Prop := w.cell? ⟨g, 0, none⟩ = some b0 ∧ w.cell? ⟨g, 1, none⟩ = some b1 ∧ w.cell? ⟨g, 2, none⟩ = some b2 ∧ w.cell? ⟨g, 3, none⟩ = some b3
theorem Gs.ofBox4 {g : Nat} {t : TypeId} {b0 b1 b2 b3 : Value} {W : World} (h : W.heap[g]? = some (.cells #[b0, b1, b2, b3] t (0, 0))) : Gs (box4 g b0 b1 b2 b3) W :=
  ⟨⟨(blk_cell h 0).trans rfl, (blk_cell h 1).trans rfl, (blk_cell h 2).trans rfl, (blk_cell h 3).trans rfl⟩, fun hb h => ⟨pw_cell_below hb h.1, pw_cell_below hb h.2.1, pw_cell_below hb h.2.2.1, pw_cell_below hb h.2.2.2⟩⟩
theorem set4_blk {W : World} {g : Nat} {t : TypeId} {c0 c1 c2 c3 b0 b1 b2 b3 : Value} (h : W.heap[g]? = some (.cells #[c0, c1, c2, c3] t (0, 0))) :
    ((((W.setCell ⟨g, 0, none⟩ b0).setCell ⟨g, 1, none⟩ b1).setCell ⟨g, 2, none⟩ b2).setCell ⟨g, 3, none⟩ b3).heap[g]? = some (.cells #[b0, b1, b2, b3] t (0, 0)) :=
  blk_put (blk_put (blk_put (blk_put h 0 b0 rfl) 1 b1 rfl) 2 b2 rfl) 3 b3 rfl
theorem set4_far {W : World} {g k : Nat} {o : Obj} {b0 b1 b2 b3 : Value} (h : W.heap[k]? = some o) (hk : k ≠ g) :
    ((((W.setCell ⟨g, 0, none⟩ b0).setCell ⟨g, 1, none⟩ b1).setCell ⟨g, 2, none⟩ b2).setCell ⟨g, 3, none⟩ b3).heap[k]? = some o :=
  (Below.heap_setCell _ ⟨g, 3, none⟩ b3 k hk).trans ((Below.heap_setCell _ ⟨g, 2, none⟩ b2 k hk).trans ((Below.heap_setCell _ ⟨g, 1, none⟩ b1 k hk).trans ((Below.heap_setCell _ ⟨g, 0, none⟩ b0 k hk).trans h)))
theorem set4_below {V W : World} {g : Nat} {b0 b1 b2 b3 : Value} (h : Below V.heap.size V W) (hg : V.heap.size ≤ g) :
    Below V.heap.size V ((((W.setCell ⟨g, 0, none⟩ b0).setCell ⟨g, 1, none⟩ b1).setCell ⟨g, 2, none⟩ b2).setCell ⟨g, 3, none⟩ b3) :=
  below_set (below_set (below_set (below_set h hg) hg) hg) hg
/-- A variable of four cells, made and written. -/
theorem Gs.put4 {Φ : World → Prop} {V W : World} {g : Nat} {t : TypeId} {c0 c1 c2 c3 : Value} (b0 b1 b2 b3 : Value) (G : Gs Φ V) (hb : Aside0 (Below V.heap.size V W)) (hg : Aside0 (g = V.heap.size)) (hx : Aside0 (W.heap[g]? = some (.cells #[c0, c1, c2, c3] t (0, 0)))) :
    Gs (fun w => Φ w ∧ box4 g b0 b1 b2 b3 w) ((((W.setCell ⟨g, 0, none⟩ b0).setCell ⟨g, 1, none⟩ b1).setCell ⟨g, 2, none⟩ b2).setCell ⟨g, 3, none⟩ b3) :=
  (G.go (set4_below hb.out (Nat.le_of_eq hg.out.symm))).add (Gs.ofBox4 (set4_blk hx.out))
/-- Two variables of four cells, made, then written. -/
theorem Gs.put44 {Φ : World → Prop} {V W X : World} {g g' : Nat} {t t' : TypeId} {c0 c1 c2 c3 c0' c1' c2' c3' : Value} (b0 b1 b2 b3 b0' b1' b2' b3' : Value) (G : Gs Φ V) (hb : Aside0 (Below V.heap.size V W)) (hg : Aside0 (g = V.heap.size)) (hx : Aside0 (W.heap[g]? = some (.cells #[c0, c1, c2, c3] t (0, 0))))
    (hb' : Aside0 (Below W.heap.size W X)) (hg' : Aside0 (g' = W.heap.size)) (hx' : Aside0 (X.heap[g']? = some (.cells #[c0', c1', c2', c3'] t' (0, 0)))) :
    Gs (fun w => (Φ w ∧ box4 g b0 b1 b2 b3 w) ∧ box4 g' b0' b1' b2' b3' w) ((((((((X.setCell ⟨g, 0, none⟩ b0).setCell ⟨g, 1, none⟩ b1).setCell ⟨g, 2, none⟩ b2).setCell ⟨g, 3, none⟩ b3).setCell ⟨g', 0, none⟩ b0').setCell ⟨g', 1, none⟩ b1').setCell ⟨g', 2, none⟩ b2').setCell ⟨g', 3, none⟩ b3') := by
  have hlt := blk_lt hx.out
  have hne : g ≠ g' := by rw [hg'.out]; omega
  have e1 : V.heap.size ≤ g := Nat.le_of_eq hg.out.symm
  have e2 : V.heap.size ≤ g' := by rw [hg'.out]; exact hb.out.size
  exact ((G.go (set4_below (set4_below (below_step hb.out hb'.out) e1) e2)).add (Gs.ofBox4 (set4_far (set4_blk (blk_below hx.out hb'.out)) hne))).add (Gs.ofBox4 (set4_blk (set4_far hx'.out (Ne.symm hne))))
section
open Go.Proofs.YtgindocfjoalhaaW.PrintLast
variable {P : Program} {ops : Array Oper} {Q : Exit → Act → World → Prop} {Φ : World → Prop} {n m fuel : Nat} {a : Act} {w : World} {T : Bool × List (List Nat × List Nat)} {B : List Nat}
theorem bz_nil (n : Nat) : Array.replicate n false = bz n 0 := by
  unfold bz
  rw [List.map_eq_replicate_iff.2 (fun x _ => Nat.zero_testBit x)]
  simp
/-- A region that draws its order, at its head. -/
theorem reg {id : Nat} (G : Gs Φ w) (hm : P.follows .mixedOrders = true) (hn : ops.size = n) (hT : rtab .any ops = T) (hB : waitsOk T.2 B = true)
    (h : ∀ W, Below w.heap.size w W → Gs Φ W → Aside0 (rtab .any ops = T) → Aside0 (waitsOk T.2 B = true) → wpAnyLast P .any ops Q Φ [] n (bz n 0) a W) : (Code.region id ops true).wp P Q a w :=
  start_ (bz n 0) hm hn (bz_nil n) (G.go (below_drew (Below.refl _ _))).at_ (fun _ => h _ (below_drew (Below.refl _ _)) (G.go (below_drew (Below.refl _ _))) ⟨hT⟩ ⟨hB⟩)
/-- A call in such a region. -/
theorem rc {oi : Oper} (i : Nat) (t : Tmp) (m' : Nat) (HT : Aside0 (rtab .any ops = T)) (hi : ops[i]? = some oi) (hN : oi.dst = some t) (hc : (readyT T.2 (bz n m).toList == [i] && (bz n m).toList.set i true == (bz n m').toList) = true)
    {f : FuncId} {fn : Func} {ars : Array Operand} {ts : Array TypeId} (hf : P.funcs[f]? = some fn) (hname : (fn.name == "runtime.NumGoroutine") = false) (hb : fn.body.isSome = true) (hop : oi.op = .call { callee := .value (.func f), args := ars, argTypes := ts }) (args : Array Value)
    (hw : Region.wanted oi (yielded ops a.tmps) = true) (hargs : ars.map a.eval = args)
    (h : Calls P f args w fun e w' => ∃ v, e = .returned v ∧ Φ w' ∧ ∀ a', a.put (some t) v = a' → wpAnyLast P .any ops Q Φ [] fuel (bz n m') a' w') : wpAnyLast P .any ops Q Φ [] (fuel + 1) (bz n m) a w := by
  refine one_ (bz n m') hi hN (one_of HT.out hc) (by simp) (fun K hK => ?_)
  refine goes_ hf hname hb args hw hN hop hargs (h.mono fun e w' hh => ?_)
  obtain ⟨v, he, hp, hr⟩ := hh
  exact ⟨v, he, hK.out _ _ hp (fun _ => hr _ rfl)⟩
end
/-- Block numbers from lo to hi. -/
def Iv (lo hi k : Nat) : Prop := lo ≤ k ∧ k < hi
theorem Gs.top {T : Nat} {W : World} (h : T ≤ W.heap.size) : Gs (fun W => T ≤ W.heap.size) W := ⟨h, fun hb h => Nat.le_trans h hb.size⟩
theorem Gs.bel {w W : World} (h : Below w.heap.size w W) : Gs (fun W => Below w.heap.size w W) W := ⟨h, fun hb h => below_step h hb⟩
theorem Gs.ownS {α : Type} {d : Kd α} {e base : Nat} {ok : Nat → Prop} {v : Value} {xs : List α} {W : World} (h : Kd.S d e W base ok v xs) : Gs (fun W => Kd.S d e W base ok v xs) W := ⟨h, fun hb h => Kd.S_below h hb⟩
theorem Gs.ownR {α : Type} {d : Kd α} {e base : Nat} {ok : Nat → Prop} {v : Value} {xs : List α} {W : World} (h : d.R e W base ok v xs) : Gs (fun W => d.R e W base ok v xs) W := ⟨h, fun hb h => Kd.R_below h hb⟩
theorem newS {α : Type} {d : Kd α} {e T : Nat} {w0 W w1 : World} {ok : Nat → Prop} {v : Value} {xs : List α} (hT : T ≤ W.heap.size) (hb0 : Below w0.heap.size w0 W) (hb : Below W.heap.size W w1) (h : Kd.S d e w1 W.heap.size ok v xs) : ∃ lo hi, (T ≤ lo ∧ lo ≤ hi) ∧ hi ≤ w1.heap.size ∧ Kd.S d e w1 w0.heap.size (Iv lo hi) v xs :=
  ⟨W.heap.size, w1.heap.size, ⟨hT, hb.size⟩, Nat.le_refl _, Kd.S_lower (Kd.S_mono (Kd.S_bound h) (fun k hk => ⟨hk.2.1, hk.2.2.1⟩)) hb0.size⟩
theorem newR {α : Type} {d : Kd α} {e T : Nat} {w0 W w1 : World} {ok : Nat → Prop} {v : Value} {xs : List α} (hT : T ≤ W.heap.size) (hb0 : Below w0.heap.size w0 W) (hb : Below W.heap.size W w1) (h : d.R e w1 W.heap.size ok v xs) : ∃ lo hi, (T ≤ lo ∧ lo ≤ hi) ∧ hi ≤ w1.heap.size ∧ d.R e w1 w0.heap.size (Iv lo hi) v xs :=
  ⟨W.heap.size, w1.heap.size, ⟨hT, hb.size⟩, Nat.le_refl _, Kd.R_lower (Kd.R_mono (Kd.R_bound h) (fun k hk => ⟨hk.2.1, hk.2.2.1⟩)) hb0.size⟩
def box2 (g : Nat) (b0 b1 : Value) (w : World) : Prop := w.cell? ⟨g, 0, none⟩ = some b0 ∧ w.cell? ⟨g, 1, none⟩ = some b1
theorem Gs.ofBox2 {g : Nat} {t : TypeId} {b0 b1 : Value} {W : World} (h : W.heap[g]? = some (.cells #[b0, b1] t (0, 0))) : Gs (box2 g b0 b1) W := ⟨⟨(blk_cell h 0).trans rfl, (blk_cell h 1).trans rfl⟩, fun hb h => ⟨pw_cell_below hb h.1, pw_cell_below hb h.2⟩⟩
theorem set2_blk {W : World} {g : Nat} {t : TypeId} {c0 c1 b0 b1 : Value} (hx : W.heap[g]? = some (.cells #[c0, c1] t (0, 0))) : ((W.setCell ⟨g, 0, none⟩ b0).setCell ⟨g, 1, none⟩ b1).heap[g]? = some (.cells #[b0, b1] t (0, 0)) := (blk_put (blk_put hx 0 b0 rfl) 1 b1 rfl)
theorem set2_far {W : World} {g k : Nat} {o : Obj} {b0 b1 : Value} (h : W.heap[k]? = some o) (hk : k ≠ g) : ((W.setCell ⟨g, 0, none⟩ b0).setCell ⟨g, 1, none⟩ b1).heap[k]? = some o := ((Below.heap_setCell _ ⟨g, 1, none⟩ b1 k hk).trans ((Below.heap_setCell _ ⟨g, 0, none⟩ b0 k hk).trans h))
theorem set2_below {V W : World} {g : Nat} {b0 b1 : Value} (h : Below V.heap.size V W) (hg : V.heap.size ≤ g) : Below V.heap.size V ((W.setCell ⟨g, 0, none⟩ b0).setCell ⟨g, 1, none⟩ b1) := (below_set (below_set h hg) hg)
theorem Gs.put2 {Φ : World → Prop} {V W : World} {g : Nat} {t : TypeId} {c0 c1 : Value} (b0 b1 : Value) (G : Gs Φ V) (hb : Aside0 (Below V.heap.size V W)) (hg : Aside0 (g = V.heap.size)) (hx : Aside0 (W.heap[g]? = some (.cells #[c0, c1] t (0, 0)))) :
    Gs (fun w => Φ w ∧ box2 g b0 b1 w) ((W.setCell ⟨g, 0, none⟩ b0).setCell ⟨g, 1, none⟩ b1) :=
  (G.go (set2_below hb.out (Nat.le_of_eq hg.out.symm))).add (Gs.ofBox2 (set2_blk hx.out))
theorem box2_kept {g : Nat} {b0 b1 : Value} {W W2 : World} {S : Nat → Prop} (h : box2 g b0 b1 W) (hk : Kept W W2 S) (hn : ¬ S g) : box2 g b0 b1 W2 := ⟨cell_kept h.1 hk hn, cell_kept h.2 hk hn⟩
theorem Gs.ofB2 {g : Nat} {b0 b1 : Value} {W : World} (h : box2 g b0 b1 W) : Gs (box2 g b0 b1) W := ⟨h, fun hb h => ⟨pw_cell_below hb h.1, pw_cell_below hb h.2⟩⟩
def box3 (g : Nat) (b0 b1 b2 : Value) (w : World) : Prop := w.cell? ⟨g, 0, none⟩ = some b0 ∧ w.cell? ⟨g, 1, none⟩ = some b1 ∧ w.cell? ⟨g, 2, none⟩ = some b2
theorem Gs.ofBox3 {g : Nat} {t : TypeId} {b0 b1 b2 : Value} {W : World} (h : W.heap[g]? = some (.cells #[b0, b1, b2] t (0, 0))) : Gs (box3 g b0 b1 b2) W := ⟨⟨(blk_cell h 0).trans rfl, (blk_cell h 1).trans rfl, (blk_cell h 2).trans rfl⟩, fun hb h => ⟨pw_cell_below hb h.1, pw_cell_below hb h.2.1, pw_cell_below hb h.2.2⟩⟩
theorem set3_blk {W : World} {g : Nat} {t : TypeId} {c0 c1 c2 b0 b1 b2 : Value} (hx : W.heap[g]? = some (.cells #[c0, c1, c2] t (0, 0))) : (((W.setCell ⟨g, 0, none⟩ b0).setCell ⟨g, 1, none⟩ b1).setCell ⟨g, 2, none⟩ b2).heap[g]? = some (.cells #[b0, b1, b2] t (0, 0)) := (blk_put (blk_put (blk_put hx 0 b0 rfl) 1 b1 rfl) 2 b2 rfl)
theorem set3_far {W : World} {g k : Nat} {o : Obj} {b0 b1 b2 : Value} (h : W.heap[k]? = some o) (hk : k ≠ g) : (((W.setCell ⟨g, 0, none⟩ b0).setCell ⟨g, 1, none⟩ b1).setCell ⟨g, 2, none⟩ b2).heap[k]? = some o := ((Below.heap_setCell _ ⟨g, 2, none⟩ b2 k hk).trans ((Below.heap_setCell _ ⟨g, 1, none⟩ b1 k hk).trans ((Below.heap_setCell _ ⟨g, 0, none⟩ b0 k hk).trans h)))
theorem set3_below {V W : World} {g : Nat} {b0 b1 b2 : Value} (h : Below V.heap.size V W) (hg : V.heap.size ≤ g) : Below V.heap.size V (((W.setCell ⟨g, 0, none⟩ b0).setCell ⟨g, 1, none⟩ b1).setCell ⟨g, 2, none⟩ b2) := (below_set (below_set (below_set h hg) hg) hg)
theorem Gs.put3 {Φ : World → Prop} {V W : World} {g : Nat} {t : TypeId} {c0 c1 c2 : Value} (b0 b1 b2 : Value) (G : Gs Φ V) (hb : Aside0 (Below V.heap.size V W)) (hg : Aside0 (g = V.heap.size)) (hx : Aside0 (W.heap[g]? = some (.cells #[c0, c1, c2] t (0, 0)))) :
    Gs (fun w => Φ w ∧ box3 g b0 b1 b2 w) (((W.setCell ⟨g, 0, none⟩ b0).setCell ⟨g, 1, none⟩ b1).setCell ⟨g, 2, none⟩ b2) :=
  (G.go (set3_below hb.out (Nat.le_of_eq hg.out.symm))).add (Gs.ofBox3 (set3_blk hx.out))
theorem box3_kept {g : Nat} {b0 b1 b2 : Value} {W W2 : World} {S : Nat → Prop} (h : box3 g b0 b1 b2 W) (hk : Kept W W2 S) (hn : ¬ S g) : box3 g b0 b1 b2 W2 := ⟨cell_kept h.1 hk hn, cell_kept h.2.1 hk hn, cell_kept h.2.2 hk hn⟩
theorem Gs.ofB3 {g : Nat} {b0 b1 b2 : Value} {W : World} (h : box3 g b0 b1 b2 W) : Gs (box3 g b0 b1 b2) W := ⟨h, fun hb h => ⟨pw_cell_below hb h.1, pw_cell_below hb h.2.1, pw_cell_below hb h.2.2⟩⟩
theorem box4_kept {g : Nat} {b0 b1 b2 b3 : Value} {W W2 : World} {S : Nat → Prop} (h : box4 g b0 b1 b2 b3 W) (hk : Kept W W2 S) (hn : ¬ S g) : box4 g b0 b1 b2 b3 W2 := ⟨cell_kept h.1 hk hn, cell_kept h.2.1 hk hn, cell_kept h.2.2.1 hk hn, cell_kept h.2.2.2 hk hn⟩
theorem Gs.ofB4 {g : Nat} {b0 b1 b2 b3 : Value} {W : World} (h : box4 g b0 b1 b2 b3 W) : Gs (box4 g b0 b1 b2 b3) W := ⟨h, fun hb h => ⟨pw_cell_below hb h.1, pw_cell_below hb h.2.1, pw_cell_below hb h.2.2.1, pw_cell_below hb h.2.2.2⟩⟩
section
open Go.Proofs.YtgindocfjoalhaaW.PrintLast
variable {P : Program} {ops : Array Oper} {Q : Exit → Act → World → Prop} {Φ : World → Prop} {n m fuel : Nat} {a : Act} {w : World} {T : Bool × List (List Nat × List Nat)}
/-- A variable made in a region that draws its order. -/
theorem ra {oi : Oper} (i : Nat) (t : Tmp) (m' : Nat) (cs : Array Value) (ty : TypeId) (HT : Aside0 (rtab .any ops = T)) (hi : ops[i]? = some oi) (hN : oi.dst = some t) (hc : (readyT T.2 (bz n m).toList == [i] && (bz n m).toList.set i true == (bz n m').toList) = true) (G : Gs Φ w)
    (hw : Region.wanted oi (yielded ops a.tmps) = true) (hrun : (execOp a.eval oi).run P w = .ok (.value (.pointer (some ⟨w.heap.size, 0, none⟩))) (w.alloc (.cells cs ty (0, 0))))
    (h : ∀ g w2, g = w.heap.size → w2.heap[g]? = some (.cells cs ty (0, 0)) → Below w.heap.size w w2 → ∀ a', a.put (some t) (.pointer (some ⟨g, 0, none⟩)) = a' → wpAnyLast P .any ops Q Φ [] fuel (bz n m') a' w2) : wpAnyLast P .any ops Q Φ [] (fuel + 1) (bz n m) a w := by
  refine one_ (bz n m') hi hN (one_of HT.out hc) (by simp) (fun K hK => ?_)
  refine value_ hw hN hrun ?_
  exact hK.out _ _ (G.go (below_alloc (Below.refl _ _) _)).at_ (fun _ => h _ _ rfl (blk_new w _) (below_alloc (Below.refl _ _) _) _ rfl)
/-- A store in a region that draws its order. -/
theorem rs {oi : Oper} (i : Nat) (m' : Nat) (w1 : World) (HT : Aside0 (rtab .any ops = T)) (hi : ops[i]? = some oi) (hN : oi.dst = none) (hc : (readyT T.2 (bz n m).toList == [i] && (bz n m).toList.set i true == (bz n m').toList) = true)
    (hw : Region.wanted oi (yielded ops a.tmps) = true) (hrun : (execOp a.eval oi).run P w = .ok .skip w1) (hS : Φ w1) (h : wpAnyLast P .any ops Q Φ [] fuel (bz n m') a w1) : wpAnyLast P .any ops Q Φ [] (fuel + 1) (bz n m) a w := by
  refine one_ (bz n m') hi hN (one_of HT.out hc) (by simp) (fun K hK => ?_)
  exact skip_ hw hN hrun (hK.out _ _ hS (fun _ => h))
end
/-! ### laws_markAlarmS: function 26 (by hand) -/
def laws_markAlarmS.l0 : Nat → List (S26) → Int → Int → Option (Int × List (S26))
  | 0, _, _, _ => none
  | k + 1, x0, x1, x5 => if x5 < (x0.length : Int) then (if 0 ≤ x5 then ((laws_markLabelS.f k (rd_T26 x0 x5).f0 x1).bind fun b => ((laws_markText.f k (wrap64 ((wrap64 (b.1 + 1)) + 1))).bind fun t => (laws_markAlarmS.l0 k (x0.set (x5 : Int).toNat (⟨b.2, b.1, (wrap64 (b.1 + 1)), t⟩ : S26)) (wrap64 ((wrap64 ((wrap64 (b.1 + 1)) + 1)) + 1)) (wrap64 (x5 + 1))))) else (none)) else (some (x1, x0))
def laws_markAlarmS.f (k : Nat) (l0 : List (S26)) (a1 : Int) : Option (Int × List (S26)) := laws_markAlarmS.l0 k l0 a1 0
set_option maxHeartbeats 8000000 in
set_option maxRecDepth 100000 in
theorem laws_markAlarmS.calls (k : Nat) (P : Nat → Prop) (A0 : Option Addr) (c0 : Nat) (l0 : List (S26)) (a1 : Int) (r1 : Int) (r2 : List (S26)) (w0 w : World) (hB : Below w0.heap.size w0 w) (ho0 : Kd.S k26 26 w w0.heap.size P (.slice A0 l0.length c0) l0) (h : laws_markAlarmS.f k l0 a1 = some (r1, r2)) :
    Calls Try.prog 26 #[.slice A0 l0.length c0, .int .i64 a1] w fun e w' => e = .returned (.int .i64 r1) ∧ Kd.S k26 26 w' w0.heap.size P (.slice A0 l0.length c0) r2 ∧ Below w0.heap.size w0 w' ∧ Kept w w' P := by
  have hu := Try.underlying26
  have HN := Aside0.mk (Eq.refl l0.length)
  obtain ⟨n0, hn0⟩ : ∃ n, n = l0.length := ⟨_, rfl⟩
  have HN0 := Aside0.mk hn0
  rw [← hn0] at ho0 ⊢
  clear hn0
  have HO0 := Aside0.mk ho0
  have HK := Aside0.mk (Kept.refl w P)
  have HB := Aside0.mk hB
  clear hB ho0
  have H' := Aside0.mk (show laws_markAlarmS.l0 k l0 a1 0 = some (r1, r2) from h)
  clear h
  go_enter Try.func26, Try.ntmps26
  go_wp2
  go_loopg [1, 5] k (fun kq v1 v5 w' => ∃ (x0 : List (S26)) (x1 : Int) (x5 : Int), v1 = .int .i64 x1 ∧ v5 = .int .i64 x5 ∧ Aside0 (laws_markAlarmS.l0 kq x0 x1 x5 = some (r1, r2)) ∧ Aside0 (kq ≤ k) ∧ Aside0 (Kd.S k26 26 w' w0.heap.size P (.slice A0 n0 c0) x0) ∧ Aside0 (Kept w w' P) ∧ Aside0 (Below w0.heap.size w0 w'))
  case atStart => exact ⟨l0, a1, 0, rfl, rfl, H', ⟨Nat.le_refl _⟩, HO0, HK, HB⟩
  case round =>
    clear H' HO0 HK HB
    obtain ⟨x0, x1, x5, rfl, rfl, HA, HK1, HO, HK, HB⟩ := hrel
    cases gk with
    | zero => exact absurd HA.out (by simp [laws_markAlarmS.l0])
    | succ k1 =>
      have H := HA.out
      clear HA
      simp only [laws_markAlarmS.l0] at H
      have hlen := (Kd.S_reads' HO.out).1
      by_cases c3 : x5 < (x0.length : Int)
      · rw [if_pos c3] at H
        by_cases c5 : 0 ≤ x5
        · rw [if_pos c5] at H
          obtain ⟨b, HL, H⟩ := Option.bind_eq_some_iff.mp H
          obtain ⟨t, HT, H⟩ := Option.bind_eq_some_iff.mp H
          obtain ⟨b1, b2⟩ := b
          dsimp only at HL HT H
          have AL := Aside0.mk HL
          have AT := Aside0.mk HT
          have H' := Aside0.mk H
          clear HL HT H
          obtain ⟨g, cap, ev, hbg, hgl, _⟩ := Kd.S_form HO.out (by omega)
          injection ev with eA en ec
          subst eA; subst ec
          have hi1 : x5 < (n0 : Int) := by omega
          obtain ⟨oki, c, hcl, hM, hcc, hfr, hoki, hH⟩ := Kd.S_elem HO.out z26 x5 c5 hi1
          obtain ⟨v, rfl, hR⟩ := k26_openM hM
          have hz0 : wr.cell? ⟨g, (x5 : Int).toNat * 4, none⟩ = some v := hcc 0 _ rfl
          obtain ⟨Av, cv, ev⟩ := Kd.R_slice hR
          subst ev
          have HH := Aside0.mk hH
          have HR := Aside0.mk (Kd.R_tight rfl hR)
          have HRok := Aside0.mk hR.1
          have HOK := Aside0.mk hoki
          have HGP := Aside0.mk (show P g from (Kd.S_R HO.out).1 g (by simp [Value.ownBlock]))
          have HGB := Aside0.mk hbg
          have HN1 := Aside0.mk hlen
          have HI := Aside0.mk hi1
          have HC5 := Aside0.mk c5
          have HCC := Aside0.mk hcc
          have HFR := Aside0.mk hfr
          have p5 : (0 ≤ x5) = True := eq_true c5
          have q5 : (x5 < (n0 : Int)) = True := eq_true hi1
          clear hH hR hM hoki hgl hbg hlen hcc hfr hcl HO en
          have c5b : decide (0 ≤ x5) = true := decide_eq_true c5
          have c3b : decide (x5 < (n0 : Int)) = true := decide_eq_true hi1
          clear c3 c5 hi1
          go_wp2_with (first | ((with_reducible refine gate_callee (f := 65) rfl ?_); refine goesL_ (some 18) rfl rfl Try.func65 (by kernel_rfl) rfl #[.slice Av (rd_T26 x0 x5).f0.length cv, .int .i64 x1] rfl (by (try simp only [List.map_toArray, List.map_cons, List.map_nil]); first | done | rfl) ?_; refine (laws_markLabelS.calls k1 (fun k_ => some k_ = (Value.slice Av (rd_T26 x0 x5).f0.length cv).ownBlock) (.slice Av (rd_T26 x0 x5).f0.length cv) (rd_T26 x0 x5).f0 x1 b1 b2 w0 _ HB.out HR.out AL.out).mono ?_; rintro e w1 ⟨rfl, hy, hb, hk⟩; refine ⟨_, rfl, ?_⟩; have HB1 := Aside0.mk hb; have HS1 := Aside0.mk (fun k_ (h_ : some k_ = (Value.slice Av (rd_T26 x0 x5).f0.length cv).ownBlock) => HRok.out k_ h_.symm); have HK2 := Aside0.mk (Kept.then_ HK.out hk (fun k_ hk_ => Or.inl (HOK.out k_ (HS1.out k_ hk_)).1)); have HH1 := Aside0.mk (Kd.H_kept HH.out hk (fun k_ _ hn hs => hn (HS1.out k_ hs))); have HR1 := Aside0.mk (Kd.R_reok (ok := oki) rfl hy (fun k_ h_ => HS1.out k_ h_.symm)); have HG1 := Aside0.mk (fun hs => (HOK.out g (HS1.out g hs)).2 rfl); have HCC1 := Aside0.mk (fun j u (hj : _) => cell_kept (HCC.out j u hj) hk HG1.out); have e0 : w1.cell? ⟨g, (x5 : Int).toNat * 4, none⟩ = some (.slice Av (rd_T26 x0 x5).f0.length cv) := cell_kept (HCC.out 0 _ rfl) hk HG1.out; have e1 : w1.cell? ⟨g, (x5 : Int).toNat * 4 + 1, none⟩ = some (.int .i64 (rd_T26 x0 x5).f1) := cell_kept (HCC.out 1 _ rfl) hk HG1.out; have e2 : w1.cell? ⟨g, (x5 : Int).toNat * 4 + 2, none⟩ = some (.int .i64 (rd_T26 x0 x5).f2) := cell_kept (HCC.out 2 _ rfl) hk HG1.out; have e3 : w1.cell? ⟨g, (x5 : Int).toNat * 4 + 3, none⟩ = some (.string (rd_T26 x0 x5).f3) := cell_kept (HCC.out 3 _ rfl) hk HG1.out; have hfr1 : ∀ j, w1.frozen? ⟨g, (x5 : Int).toNat * 4 + j, none⟩ = false := (fun j => by have hb_ := hk.2 g (World.block_lt_of_cell? _ _ (HCC.out 0 _ rfl)) HG1.out; have hf_ := HFR.out j; simp only [World.frozen?, hb_] at hf_ ⊢; exact hf_); have f1 := hfr1 1; have f2 := hfr1 2; clear hfr1 hy hb hk hz0))
          refine (laws_markText.calls k1 (wrap64 (wrap64 (b1 + 1) + 1)) t _ AT.out).mono ?_
          rintro e w2 ⟨rfl, hb⟩
          have h1 : Kd.H k26 26 (w1.setCell ⟨g, (x5 : Int).toNat * 4 + 1, none⟩ (.int .i64 b1)) w0.heap.size P (.slice (some ⟨g, 0, none⟩) n0 c0) x0 x5 oki [.slice Av (rd_T26 x0 x5).f0.length cv, .int .i64 b1, .int .i64 (rd_T26 x0 x5).f2, .string (rd_T26 x0 x5).f3] := (Kd.H_seg HH1.out HC5.out HI.out (seg := [.int .i64 b1]) (j := 1) (show 1 + 1 ≤ 4 by decide) (fun q hq => by rw [List.mem_singleton.1 hq]; rfl)).1
          have h2 : Kd.H k26 26 ((w1.setCell ⟨g, (x5 : Int).toNat * 4 + 1, none⟩ (.int .i64 b1)).setCell ⟨g, (x5 : Int).toNat * 4 + 2, none⟩ (.int .i64 (wrap64 (b1 + 1)))) w0.heap.size P (.slice (some ⟨g, 0, none⟩) n0 c0) x0 x5 oki [.slice Av (rd_T26 x0 x5).f0.length cv, .int .i64 b1, .int .i64 (wrap64 (b1 + 1)), .string (rd_T26 x0 x5).f3] := (Kd.H_seg h1 HC5.out HI.out (seg := [.int .i64 (wrap64 (b1 + 1))]) (j := 2) (show 2 + 1 ≤ 4 by decide) (fun q hq => by rw [List.mem_singleton.1 hq]; rfl)).1
          have HH2 := Aside0.mk (Kd.H_below h2 hb)
          have HR2 := Aside0.mk (Kd.R_below (Kd.R_far (p := ⟨g, (x5 : Int).toNat * 4 + 2, none⟩) (Kd.R_far (p := ⟨g, (x5 : Int).toNat * 4 + 1, none⟩) HR1.out (fun k_ hk_ => (HOK.out k_ hk_).2) (.int .i64 b1)) (fun k_ hk_ => (HOK.out k_ hk_).2) (.int .i64 (wrap64 (b1 + 1)))) hb)
          have HB2 := Aside0.mk (below_step (below_set (below_set HB1.out HGB.out) HGB.out) hb)
          have HK3 := Aside0.mk (Kept.below (Kept.setCell (Kept.setCell HK2.out (p := ⟨g, (x5 : Int).toNat * 4 + 1, none⟩) (Or.inl HGP.out) _) (p := ⟨g, (x5 : Int).toNat * 4 + 2, none⟩) (Or.inl HGP.out) _) hb)
          obtain ⟨_, _, _, _, _, hcc2, _⟩ := Kd.H_raw HH2.out HC5.out HI.out
          have e3' : w2.cell? ⟨g, (x5 : Int).toNat * 4 + 3, none⟩ = some (.string (rd_T26 x0 x5).f3) := hcc2 3 _ rfl
          have f3' : w2.frozen? ⟨g, (x5 : Int).toNat * 4 + 3, none⟩ = false := (by obtain ⟨_, f_, hRg⟩ := HH2.out; obtain ⟨g_, cap_, ev_, _, _, cells_, hbk_⟩ := Kd.R_form hRg (by rw [List.length_zipIdx]; have := HN1.out; have := HI.out; have := HC5.out; omega); injection ev_ with ea_; injection ea_ with ea_; injection ea_ with ea_; subst ea_; exact blk_frozen hbk_ _)
          clear hcc2 h1 h2 hb
          go_wp2
          go_roundg k1
          case measure => have := HK1.out; omega
          case rel =>
            have h3 : Kd.H k26 26 (w2.setCell ⟨g, (x5 : Int).toNat * 4 + 3, none⟩ (.string t)) w0.heap.size P (.slice (some ⟨g, 0, none⟩) n0 c0) x0 x5 oki [.slice Av (rd_T26 x0 x5).f0.length cv, .int .i64 b1, .int .i64 (wrap64 (b1 + 1)), .string t] := (Kd.H_seg HH2.out HC5.out HI.out (seg := [.string t]) (j := 3) (show 3 + 1 ≤ 4 by decide) (fun q hq => by rw [List.mem_singleton.1 hq]; rfl)).1
            have h4 := Kd.H_back h3 (x' := (⟨b2, b1, wrap64 (b1 + 1), t⟩ : S26)) (k26_mkM _ _ oki (⟨b2, b1, wrap64 (b1 + 1), t⟩ : S26) (v0 := .slice Av (rd_T26 x0 x5).f0.length cv) (Kd.R_far (p := ⟨g, (x5 : Int).toNat * 4 + 3, none⟩) HR2.out (fun k_ hk_ => (HOK.out k_ hk_).2) (.string t))) (fun _ hk_ => hk_)
            exact ⟨_, _, _, (by first | rfl | (simp; done) | (simp [*]; done)), (by first | rfl | (simp; done) | (simp [*]; done)), H', ⟨by have := HK1.out; omega⟩, ⟨h4⟩, ⟨Kept.setCell HK3.out (p := ⟨g, (x5 : Int).toNat * 4 + 3, none⟩) (Or.inl HGP.out) _⟩, ⟨below_set HB2.out HGB.out⟩⟩
        · rw [if_neg c5] at H
          exact absurd H (by simp)
      · rw [if_neg c3] at H
        simp only [Option.some.injEq, Prod.mk.injEq] at H
        obtain ⟨rfl, rfl⟩ := H
        have c3b : decide (x5 < (n0 : Int)) = false := decide_eq_false (by omega)
        clear c3 hlen
        go_wp2
        go_ret
        exact ⟨rfl, HO.out, HB.out, HK.out⟩
/-! ### laws_markLabelSS: function 53 (by hand) -/
def laws_markLabelSS.l0 : Nat → List (List (S89)) → Int → Int → Option (Int × List (List (S89)))
  | 0, _, _, _ => none
  | k + 1, x0, x1, x5 => if x5 < (x0.length : Int) then (if 0 ≤ x5 then ((laws_markLabelS.f k (x0.getD (x5 : Int).toNat []) x1).bind fun b => (laws_markLabelSS.l0 k (x0.set (x5 : Int).toNat b.2) b.1 (wrap64 (x5 + 1)))) else (none)) else (some (x1, x0))
def laws_markLabelSS.f (k : Nat) (l0 : List (List (S89))) (a1 : Int) : Option (Int × List (List (S89))) := laws_markLabelSS.l0 k l0 a1 0
set_option maxHeartbeats 8000000 in
set_option maxRecDepth 100000 in
theorem laws_markLabelSS.calls (k : Nat) (P : Nat → Prop) (A0 : Option Addr) (c0 : Nat) (l0 : List (List (S89))) (a1 : Int) (r1 : Int) (r2 : List (List (S89))) (w0 w : World) (hB : Below w0.heap.size w0 w) (ho0 : Kd.S (Kd.slice 89 k89) 24 w w0.heap.size P (.slice A0 l0.length c0) l0) (h : laws_markLabelSS.f k l0 a1 = some (r1, r2)) :
    Calls Try.prog 53 #[.slice A0 l0.length c0, .int .i64 a1] w fun e w' => e = .returned (.int .i64 r1) ∧ Kd.S (Kd.slice 89 k89) 24 w' w0.heap.size P (.slice A0 l0.length c0) r2 ∧ Below w0.heap.size w0 w' ∧ Kept w w' P := by
  obtain ⟨n0, hn0⟩ : ∃ n, n = l0.length := ⟨_, rfl⟩
  have HN0 := Aside0.mk hn0
  rw [← hn0] at ho0 ⊢
  clear hn0
  have HO0 := Aside0.mk ho0
  have HK := Aside0.mk (Kept.refl w P)
  have HB := Aside0.mk hB
  clear hB ho0
  have H' := Aside0.mk (show laws_markLabelSS.l0 k l0 a1 0 = some (r1, r2) from h)
  clear h
  go_enter Try.func53, Try.ntmps53
  go_wp2
  go_loopg [1, 5] k (fun kq v1 v5 w' => ∃ (x0 : List (List (S89))) (x1 : Int) (x5 : Int), v1 = .int .i64 x1 ∧ v5 = .int .i64 x5 ∧ Aside0 (laws_markLabelSS.l0 kq x0 x1 x5 = some (r1, r2)) ∧ Aside0 (kq ≤ k) ∧ Aside0 (Kd.S (Kd.slice 89 k89) 24 w' w0.heap.size P (.slice A0 n0 c0) x0) ∧ Aside0 (Kept w w' P) ∧ Aside0 (Below w0.heap.size w0 w'))
  case atStart => exact ⟨l0, a1, 0, rfl, rfl, H', ⟨Nat.le_refl _⟩, HO0, HK, HB⟩
  case round =>
    clear H' HO0 HK HB
    obtain ⟨x0, x1, x5, rfl, rfl, HA, HK1, HO, HK, HB⟩ := hrel
    cases gk with
    | zero => exact absurd HA.out (by simp [laws_markLabelSS.l0])
    | succ k1 =>
      have H := HA.out
      clear HA
      simp only [laws_markLabelSS.l0] at H
      have hlen := (Kd.S_reads' HO.out).1
      by_cases c3 : x5 < (x0.length : Int)
      · rw [if_pos c3] at H
        by_cases c5 : 0 ≤ x5
        · rw [if_pos c5] at H
          obtain ⟨b, HL, H⟩ := Option.bind_eq_some_iff.mp H
          obtain ⟨b1, b2⟩ := b
          dsimp only at HL H
          have AL := Aside0.mk HL
          have H' := Aside0.mk H
          clear HL H
          obtain ⟨g, cap, ev, hbg, hgl, _⟩ := Kd.S_form HO.out (by omega)
          injection ev with eA en ec
          subst eA; subst ec
          have hi1 : x5 < (n0 : Int) := by omega
          obtain ⟨oki, c, hcl, hM, hcc, hfr, hoki, hH⟩ := Kd.S_elem HO.out [] x5 c5 hi1
          obtain ⟨v, rfl, hR⟩ := hM
          obtain ⟨Av, cv, ev⟩ := Kd.R_slice hR
          subst ev
          have hz0 : wr.cell? ⟨g, (x5 : Int).toNat, none⟩ = some (.slice Av (x0.getD (x5 : Int).toNat []).length cv) := by
            have h_ := hcc 0 _ rfl
            have e_ : (x5 : Int).toNat * (Kd.slice 89 k89).sz + 0 = (x5 : Int).toNat := by show (x5 : Int).toNat * 1 + 0 = _; omega
            rw [e_] at h_
            exact h_
          have HH := Aside0.mk hH
          have HR := Aside0.mk (Kd.R_tight rfl hR)
          have HRok := Aside0.mk hR.1
          have HOK := Aside0.mk hoki
          have HN1 := Aside0.mk hlen
          have HI := Aside0.mk hi1
          have HC5 := Aside0.mk c5
          have p5 : (0 ≤ x5) = True := eq_true c5
          have q5 : (x5 < (n0 : Int)) = True := eq_true hi1
          clear hH hR hoki hgl hbg hlen hcc hfr hcl HO en
          have c5b : decide (0 ≤ x5) = true := decide_eq_true c5
          have c3b : decide (x5 < (n0 : Int)) = true := decide_eq_true hi1
          clear c3 c5 hi1
          go_wp2_with (first | ((with_reducible refine gate_callee (f := 65) rfl ?_); refine goesL_ (some 17) rfl rfl Try.func65 (by kernel_rfl) rfl #[.slice Av (x0.getD (x5 : Int).toNat []).length cv, .int .i64 x1] rfl (by (try simp only [List.map_toArray, List.map_cons, List.map_nil]); first | done | rfl) ?_; refine (laws_markLabelS.calls k1 (fun k_ => some k_ = (Value.slice Av (x0.getD (x5 : Int).toNat []).length cv).ownBlock) (.slice Av (x0.getD (x5 : Int).toNat []).length cv) (x0.getD (x5 : Int).toNat []) x1 b1 b2 w0 _ HB.out HR.out AL.out).mono ?_; rintro e w1 ⟨rfl, hy, hb, hk⟩; refine ⟨_, rfl, ?_⟩; have HB1 := Aside0.mk hb; have HS1 := Aside0.mk (fun k_ (h_ : some k_ = (Value.slice Av (x0.getD (x5 : Int).toNat []).length cv).ownBlock) => HRok.out k_ h_.symm); have HK2 := Aside0.mk (Kept.then_ HK.out hk (fun k_ hk_ => Or.inl (HOK.out k_ (HS1.out k_ hk_)).1)); have HH1 := Aside0.mk (Kd.H_kept HH.out hk (fun k_ _ hn hs => hn (HS1.out k_ hs))); have HR1 := Aside0.mk (Kd.R_reok (ok := oki) rfl hy (fun k_ h_ => HS1.out k_ h_.symm)); clear hy hb hk hz0))
          go_roundg k1
          case measure => have := HK1.out; omega
          case rel => exact ⟨_, _, _, (by first | rfl | (simp; done) | (simp [*]; done)), (by first | rfl | (simp; done) | (simp [*]; done)), H', ⟨by have := HK1.out; omega⟩, ⟨Kd.H_back HH1.out (x' := b2) ⟨_, rfl, HR1.out⟩ (fun _ hk_ => hk_)⟩, HK2, HB1⟩
        · rw [if_neg c5] at H
          exact absurd H (by simp)
      · rw [if_neg c3] at H
        simp only [Option.some.injEq, Prod.mk.injEq] at H
        obtain ⟨rfl, rfl⟩ := H
        have c3b : decide (x5 < (n0 : Int)) = false := decide_eq_false (by omega)
        clear c3 hlen
        go_wp2
        go_ret
        exact ⟨rfl, HO.out, HB.out, HK.out⟩
/-! ### impl_Keys: function 49 (by hand) -/
def impl_Keys.known (k : Nat) (key : List (S89)) : List (List (S89)) → Bool → Option Bool
  | [], b => some b
  | x :: r, b => if b = true then impl_Keys.known k key r true else (impl_SameSet.f k x key).bind fun t => impl_Keys.known k key r t
def impl_Keys.go (k : Nat) (l1 : List ByteArray) : List (S26) → List (List (S89)) → Option (List (List (S89)))
  | [], out => some out
  | a :: r, out => (impl_KeyOf.f k a.f0 a.f1 a.f2 a.f3 l1).bind fun key => (impl_Keys.known k key out false).bind fun b => if b = true then impl_Keys.go k l1 r out else (if out.length < 4398046511104 then impl_Keys.go k l1 r (out ++ [key]) else none)
def impl_Keys.f (k : Nat) (l0 : List (S26)) (l1 : List ByteArray) : Option (List (List (S89))) := impl_Keys.go k l1 l0 []
theorem drop_at {α : Type} (z : α) (l : List α) (i : Nat) (h : i < l.length) : l.drop i = l.getD i z :: l.drop (i + 1) := by
  rw [List.drop_eq_getElem_cons h, List.getD_eq_getElem?_getD, List.getElem?_eq_getElem h]; rfl
set_option maxHeartbeats 8000000 in
set_option maxRecDepth 100000 in
theorem impl_Keys.calls (k : Nat) (A0 : Option Addr) (c0 : Nat) (l0 : List (S26)) (A1 : Option Addr) (c1 : Nat) (l1 : List ByteArray) (r : List (List (S89))) (w : World) (hr0 : Kd.C k26 w A0 l0.length l0) (hc0 : l0.length ≤ c0) (hr1 : Kd.C Kd.string w A1 l1.length l1) (hc1 : l1.length ≤ c1) (h : impl_Keys.f k l0 l1 = some r) :
    Calls Try.prog 49 #[.slice A0 l0.length c0, .slice A1 l1.length c1] w fun e w' => ∃ v0_ : Value, e = .returned (v0_) ∧ Kd.S (Kd.slice 89 k89) 24 w' w.heap.size (fun _ => True) v0_ r ∧ Below w.heap.size w w' := by
  have hu26 := Try.underlying26
  have hu24 := Try.underlying24
  have HR0 := Aside0.mk hr0
  have HC0 := Aside0.mk hc0
  have HR1 := Aside0.mk hr1
  have HC1 := Aside0.mk hc1
  have HX := Aside0.mk h
  clear hr0 hc0 hr1 hc1 h
  obtain ⟨n0, hn0⟩ : ∃ n, n = l0.length := ⟨_, rfl⟩
  have HN0 := Aside0.mk hn0
  have hmx : n0 ≤ 9223372036854775807 := by rw [hn0]; exact HR0.out.2.1
  rw [← hn0]
  clear hn0
  go_enter Try.func49, Try.ntmps49
  go_wp2
  go_loopg [5, 14] n0 (fun kx v5 v14 w' => ∃ (i : Nat) (out : List (List (S89))) (A5 : Option Addr) (c5 : Nat), v5 = .slice A5 out.length c5 ∧ v14 = .int .i64 (i : Int) ∧ i ≤ n0 ∧ n0 - i ≤ kx ∧ out.length ≤ 4398046511104 ∧ Aside0 (impl_Keys.go k l1 (l0.drop i) out = some r) ∧ Aside0 (Kd.S (Kd.slice 89 k89) 24 w' w.heap.size (fun _ => True) (.slice A5 out.length c5) out) ∧ Aside0 (Below w.heap.size w w'))
  case atStart => exact ⟨0, [], none, 0, rfl, rfl, Nat.zero_le _, Nat.le_refl _, by simp, HX, ⟨Kd.S_nil _ _ _ _ _⟩, ⟨Below.refl _ _⟩⟩
  case round =>
    clear HX
    obtain ⟨i, out, A5, c5, rfl, rfl, hin, hkx, hom, HG, HO, HB⟩ := hrel
    by_cases hlt : i < n0
    · have hl0 : i < l0.length := by rw [← HN0.out]; exact hlt
      have H := HG.out
      rw [drop_at z26 l0 i hl0] at H
      simp only [impl_Keys.go] at H
      obtain ⟨key, HK0, H⟩ := Option.bind_eq_some_iff.mp H
      obtain ⟨b, HB0, H⟩ := Option.bind_eq_some_iff.mp H
      have AK := Aside0.mk HK0
      have AB := Aside0.mk HB0
      have H' := Aside0.mk H
      clear HK0 HB0 H HG
      obtain ⟨ad, Aa, ca, rfl, hx0, hx1, hx2, hx3, hla, hCa⟩ := at_T26 (Kd.C_below HR0.out HB.out) (i : Int) (by omega) (by rw [← HN0.out]; omega)
      simp only [Int.toNat_natCast] at hx0 hx1 hx2 hx3
      have HCa := Aside0.mk (show Kd.C k89 wr Aa (l0.getD i z26).f0.length (l0.getD i z26).f0 from hCa)
      have HLa := Aside0.mk (show (l0.getD i z26).f0.length ≤ ca from hla)
      clear hCa hla hl0
      have hltb : decide ((i : Int) < (n0 : Int)) = true := decide_eq_true (by omega)
      go_upto_region 7 with (first | ((with_reducible refine gate_dst (N := 7) rfl ?_); refine box_event ?hg (N := 7) ?hd (cs := #[.slice none 0 0, .int .i64 0, .int .i64 0, .string (⟨#[]⟩ : ByteArray)]) (t := 26) ?hr ?_; (case hd => rfl); (case hg => rfl); (case hr => first | (go_simp; done) | (go_simp; rfl)); intro g7 hg w2 hbox hb; have HB2 := Aside0.mk (below_step HB.out hb); have HO2 := Aside0.mk (Kd.S_below HO.out hb); have HCa2 := Aside0.mk (Kd.C_below HCa.out hb); have HE := Aside0.mk hg; have HV := Aside0.mk hb; have HBK := Aside0.mk hbox; have q0 := cz4_0 HBK; have q1 := cz4_1 HBK; have q2 := cz4_2 HBK; have q3 := cz4_3 HBK; have y0 := blk_frozen hbox 0; have y1 := blk_frozen hbox 1; have y2 := blk_frozen hbox 2; have y3 := blk_frozen hbox 3; clear hg hb hbox hx0 hx1 hx2 hx3) | ((with_reducible refine gate_callee (f := 84) rfl ?_); refine goesL_ (some 20) rfl rfl Try.func84 (by kernel_rfl) rfl #[.agg #[.slice Aa (l0.getD i z26).f0.length ca, .int .i64 (l0.getD i z26).f1, .int .i64 (l0.getD i z26).f2, .string (l0.getD i z26).f3], .slice A1 l1.length c1] rfl (by (try simp only [List.map_toArray, List.map_cons, List.map_nil]); first | done | rfl) ?_; have hE := set4_below (b0 := (.slice Aa (l0.getD i z26).f0.length ca)) (b1 := (.int .i64 (l0.getD i z26).f1)) (b2 := (.int .i64 (l0.getD i z26).f2)) (b3 := (.string (l0.getD i z26).f3)) HV.out (Nat.le_of_eq HE.out.symm); refine (impl_KeyOf.calls k _ _ (l0.getD i z26).f0 (l0.getD i z26).f1 (l0.getD i z26).f2 (l0.getD i z26).f3 _ _ l1 key _ (Kd.C_below HCa.out hE) HLa.out (Kd.C_below HR1.out (below_step HB.out hE)) HC1.out AK.out).mono ?_; rintro e w3 ⟨v20, rfl, ho, hb⟩; refine ⟨_, rfl, ?_⟩; have HB3 := Aside0.mk (below_step (below_step HB.out hE) hb); have HO3 := Aside0.mk (Kd.S_elder' (Kd.S_below HO.out hE) (Kd.R_base ho) hb); have hnew := Kd.R_new' (u := .slice A5 out.length c5) ho (fun k_ hk_ => Nat.lt_of_lt_of_le (Kd.S_lt HO.out k_ hk_) hE.size); have HKY := Aside0.mk (Kd.R_lower hnew (Nat.le_trans HB.out.size hE.size)); clear ho hb hnew hE))
      obtain ⟨Ak, ck, ek⟩ := Kd.R_slice HKY.out
      subst ek
      clear HB HO HCa HLa HB2 HO2 HCa2 HE HV HBK q0 q1 q2 q3 y0 y1 y2 y3
      go_wp2
      go_loopg [9, 23] out.length (fun ky v9 v23 w' => ∃ (j : Nat) (bb : Bool), v9 = .bool bb ∧ v23 = .int .i64 (j : Int) ∧ j ≤ out.length ∧ out.length - j ≤ ky ∧ Aside0 (impl_Keys.known k key (out.drop j) bb = some b) ∧ Aside0 (Kd.S (Kd.slice 89 k89) 24 w' w.heap.size (fun k_ => True ∧ some k_ ≠ (Value.slice Ak key.length ck).ownBlock) (.slice A5 out.length c5) out) ∧ Aside0 (Kd.R k89 89 w' w.heap.size (fun k_ => True ∧ some k_ ≠ (Value.slice A5 out.length c5).ownBlock) (.slice Ak key.length ck) key) ∧ Aside0 (Below w.heap.size w w'))
      case atStart => exact ⟨0, false, rfl, rfl, Nat.zero_le _, Nat.le_refl _, AB, HO3, HKY, HB3⟩
      case round =>
        clear AB HO3 HKY HB3
        obtain ⟨j, bb, rfl, rfl, hjn, hky, HG, HO, HKY, HB⟩ := hrel
        by_cases hj : j < out.length
        · have hjb : decide ((j : Int) < (out.length : Int)) = true := decide_eq_true (by omega)
          have hjb2 : decide (j < out.length) = true := decide_eq_true hj
          have H := HG.out
          rw [drop_at [] out j hj] at H
          simp only [impl_Keys.known] at H
          obtain ⟨g, cap, ev, _, _, _⟩ := Kd.S_form HO.out (by omega)
          injection ev with eA en ec
          subst eA; subst ec
          obtain ⟨c, hcl, hM, hcc⟩ := Kd.S_get HO.out [] (j : Int) (by omega) (by omega)
          simp only [Int.toNat_natCast] at hM
          generalize out.getD j [] = x at H hM
          obtain ⟨v, rfl, hR⟩ := hM
          obtain ⟨Av, cv, rfl, hlv, hCv⟩ := Kd.R_reads hR
          have hz : wr.cell? ⟨g, j, none⟩ = some (.slice Av x.length cv) := by
            have h_ := hcc 0 _ rfl
            have e_ : ((j : Int)).toNat * (Kd.slice 89 k89).sz + 0 = j := by show ((j : Int)).toNat * 1 + 0 = _; omega
            rw [e_, add_plain] at h_
            exact h_
          have HCv := Aside0.mk (show Kd.C k89 wr Av x.length x from hCv)
          have HLv := Aside0.mk (show x.length ≤ cv from hlv)
          clear hCv hlv hR hcl hcc en
          cases bb with
          | true =>
            rw [if_pos rfl] at H
            have H2 := Aside0.mk H
            clear H HG
            go_wp2
            go_roundg (out.length - (j + 1))
            case measure => omega
            case rel => exact ⟨j + 1, true, rfl, by go_num, by omega, Nat.le_refl _, H2, HO, HKY, HB⟩
          | false =>
            rw [if_neg (by decide)] at H
            obtain ⟨t, HT, H⟩ := Option.bind_eq_some_iff.mp H
            have AT := Aside0.mk HT
            have H2 := Aside0.mk H
            clear H HG HT
            go_wp2_with (first | ((with_reducible refine gate_callee (f := 17) rfl ?_); refine gate_guard (by rfl) ?_; refine goesL_ (some 31) rfl rfl Try.func17 (by kernel_rfl) rfl #[.slice Av x.length cv, .slice Ak key.length ck] rfl (by (try simp only [List.map_toArray, List.map_cons, List.map_nil]); first | done | rfl) ?_; refine (impl_SameSet.calls k _ _ x _ _ key t _ HCv.out HLv.out (Kd.R_reads' HKY.out).2.2 (Kd.R_reads' HKY.out).2.1 AT.out).mono ?_; rintro e w5 ⟨rfl, hd⟩; refine ⟨_, rfl, ?_⟩; have HO5 := Aside0.mk (Kd.S_below HO.out hd.below); have HKY5 := Aside0.mk (Kd.R_below HKY.out hd.below); have HB5 := Aside0.mk (below_step HB.out hd.below); clear hd hz))
            go_roundg (out.length - (j + 1))
            case measure => omega
            case rel => exact ⟨j + 1, t, rfl, by go_num, by omega, Nat.le_refl _, H2, HO5, HKY5, HB5⟩
        · have hjb : decide ((j : Int) < (out.length : Int)) = false := decide_eq_false (by omega)
          have hjb2 : decide (j < out.length) = false := decide_eq_false hj
          have H := HG.out
          rw [List.drop_eq_nil_of_le (by omega)] at H
          simp only [impl_Keys.known, Option.some.injEq] at H
          subst H
          clear HG
          have hH := H'.out
          clear H'
          cases bb with
          | true =>
            rw [if_pos rfl] at hH
            have H' := Aside0.mk hH
            clear hH
            go_wp2
            go_roundg (n0 - (i + 1))
            case measure => omega
            case rel => exact ⟨i + 1, out, A5, c5, rfl, by go_num, by omega, Nat.le_refl _, hom, H', ⟨Kd.S_mono HO.out (fun _ _ => trivial)⟩, HB⟩
          | false =>
            rw [if_neg (by decide)] at hH
            by_cases hN : out.length < 4398046511104
            · rw [if_pos hN] at hH
              have H' := Aside0.mk hH
              have LM := Aside0.mk hN
              clear hH hN
              go_wp2_with (first | ((with_reducible refine gate_builtin (b := .append) (xs := #[.tmp 36, .tmp 38]) rfl ?_); at_builtin; refine Kd.S_append (Kd.slice 89 k89) (w0 := w) w.heap.size rfl (.tmp 36) (.tmp 38) 75 24 (.slice none 0 0) 24 rfl Try.underlying75 info24 rfl (by decide) (by omega) (.slice A5 out.length c5) out key [.slice Ak key.length ck] (fun _ => True) (fun k_ => some k_ = (.slice Ak key.length ck : Value).ownBlock) rfl rfl ?aP (fun k_ hk_ => HKY.out.1 k_ hk_.symm) (fun _ _ => trivial) ?aO HB.out HB.out.size ?aL ?_; (case aP => exact Kd.M_row (Kd.R_tight rfl HKY.out)); (case aO => exact Kd.S_mono HO.out (fun k_ hk_ => ⟨trivial, fun e_ => hk_.2 e_⟩)); (case aL => have := LM.out; omega); intro v39 w6 ho hb hg hat; have HO6 := Aside0.mk ho; have HB6 := Aside0.mk hb; clear ho hb hg hat))
              obtain ⟨A6, c6, e6⟩ := Kd.S_slice HO6.out
              subst e6
              go_roundg (n0 - (i + 1))
              case measure => omega
              case rel => exact ⟨i + 1, out ++ [key], A6, c6, rfl, by go_num, by omega, Nat.le_refl _, by have := LM.out; simp; omega, H', HO6, HB6⟩
            · rw [if_neg hN] at hH
              exact absurd hH (by simp)
    · have hltb : decide ((i : Int) < (n0 : Int)) = false := decide_eq_false (by omega)
      have H := HG.out
      rw [List.drop_eq_nil_of_le (by rw [← HN0.out]; omega)] at H
      simp only [impl_Keys.go, Option.some.injEq] at H
      subst H
      clear HG
      go_wp2
      go_ret
      exact ⟨_, rfl, HO.out, HB.out⟩

set_option maxHeartbeats 16000000 in
set_option maxRecDepth 100000 in
theorem laws_FnExactKeys.early1 (k : Nat) (A0 : Option Addr) (c0 : Nat) (l0 : List S62) (A1 : Option Addr) (c1 : Nat) (l1 : List ByteArray) (w : World) (hr0 : Kd.C k62 w A0 l0.length l0) (hc0 : l0.length ≤ c0) (hr1 : Kd.C Kd.string w A1 l1.length l1) (hc1 : l1.length ≤ c1) (q1 : Int)
  (F1 : Aside0 (laws_szAlarmS.f k l0 1048576 = some q1))
  (K0 : Aside0 (decide (q1 < 0) = true)) :
  Calls Try.prog 8 #[.slice A0 l0.length c0, .slice A1 l1.length c1] w fun e w' => e = .returned (.bool true) ∧ Below w.heap.size w w' := by
 have Hc0 := aM hc0
 have Hc1 := aM hc1
 have HR0 := aM hr0
 have HR1 := aM hr1
 have G := (Gs.below w).add (Gs.top (Nat.le_refl w.heap.size))
 clear hc0 hc1 hr0 hr1
 go_enter Try.func8, Try.ntmps8
 go_upto_region 1 with (fail)
 go_upto_region 2 with (fail)
 go_upto_region 3 with (first | ((with_reducible refine gate_callee (f := 44) rfl ?_); refine goesL_ (some 16) rfl rfl Try.func44 (by kernel_rfl) rfl #[.slice A0 l0.length c0, .int .i64 1048576] rfl (by (try simp only [List.map_toArray, List.map_cons, List.map_nil]); first | done | rfl) ?_; refine (laws_szAlarmS.calls k _ _ l0 1048576 q1 _ (Kd.C_below HR0.out G.at_.1) Hc0.out F1.out).mono ?_; rintro e w1 ⟨rfl, hb⟩; refine ⟨_, rfl, ?_⟩; have G1 := (G.go hb); clear G hb; have G := G1; clear G1))
 have hk0_ := K0.out
 try go_wp2
 try go_wp2
 go_ret
 exact ⟨rfl, G.at_.1⟩
set_option maxHeartbeats 16000000 in
set_option maxRecDepth 100000 in
theorem laws_FnExactKeys.early2 (k : Nat) (A0 : Option Addr) (c0 : Nat) (l0 : List S62) (A1 : Option Addr) (c1 : Nat) (l1 : List ByteArray) (w : World) (hr0 : Kd.C k62 w A0 l0.length l0) (hc0 : l0.length ≤ c0) (hr1 : Kd.C Kd.string w A1 l1.length l1) (hc1 : l1.length ≤ c1) (q1 : Int) (q2 : Int)
  (F1 : Aside0 (laws_szAlarmS.f k l0 1048576 = some q1))
  (F2 : Aside0 (laws_szStringS.f k l1 q1 = some q2))
  (K0 : Aside0 (decide (q1 < 0) = false))
  (K1 : Aside0 (decide (q2 < 0) = true)) :
  Calls Try.prog 8 #[.slice A0 l0.length c0, .slice A1 l1.length c1] w fun e w' => e = .returned (.bool true) ∧ Below w.heap.size w w' := by
 have Hc0 := aM hc0
 have Hc1 := aM hc1
 have HR0 := aM hr0
 have HR1 := aM hr1
 have G := (Gs.below w).add (Gs.top (Nat.le_refl w.heap.size))
 clear hc0 hc1 hr0 hr1
 go_enter Try.func8, Try.ntmps8
 go_upto_region 1 with (fail)
 go_upto_region 2 with (fail)
 go_upto_region 3 with (first | ((with_reducible refine gate_callee (f := 44) rfl ?_); refine goesL_ (some 16) rfl rfl Try.func44 (by kernel_rfl) rfl #[.slice A0 l0.length c0, .int .i64 1048576] rfl (by (try simp only [List.map_toArray, List.map_cons, List.map_nil]); first | done | rfl) ?_; refine (laws_szAlarmS.calls k _ _ l0 1048576 q1 _ (Kd.C_below HR0.out G.at_.1) Hc0.out F1.out).mono ?_; rintro e w1 ⟨rfl, hb⟩; refine ⟨_, rfl, ?_⟩; have G1 := (G.go hb); clear G hb; have G := G1; clear G1))
 have hk0_ := K0.out
 go_upto_region 5 with (fail)
 go_upto_region 6 with (first | ((with_reducible refine gate_callee (f := 45) rfl ?_); refine goesL_ (some 21) rfl rfl Try.func45 (by kernel_rfl) rfl #[.slice A1 l1.length c1, .int .i64 q1] rfl (by (try simp only [List.map_toArray, List.map_cons, List.map_nil]); first | done | rfl) ?_; refine (laws_szStringS.calls k _ _ l1 q1 q2 _ (Kd.C_below HR1.out G.at_.1) Hc1.out F2.out).mono ?_; rintro e w1 ⟨rfl, hb⟩; refine ⟨_, rfl, ?_⟩; have G1 := (G.go hb.below); clear G hb; have G := G1; clear G1))
 have hk1_ := K1.out
 try go_wp2
 try go_wp2
 go_ret
 exact ⟨rfl, G.at_.1⟩
set_option maxHeartbeats 16000000 in
set_option maxRecDepth 100000 in
theorem laws_FnExactKeys.way (k : Nat) (A0 : Option Addr) (c0 : Nat) (l0 : List S62) (A1 : Option Addr) (c1 : Nat) (l1 : List ByteArray) (w : World) (hr0 : Kd.C k62 w A0 l0.length l0) (hc0 : l0.length ≤ c0) (hr1 : Kd.C Kd.string w A1 l1.length l1) (hc1 : l1.length ≤ c1) (q1 : Int) (q2 : Int) (m0 : List (S26)) (s0 : List ByteArray) (ks : List (List (S89))) (e1 : Int) (m1 : List (S26)) (e2 : Int) (s1 : List ByteArray) (e3 : Int) (kk : List (List (S89)))
  (F1 : Aside0 (laws_szAlarmS.f k l0 1048576 = some q1))
  (F2 : Aside0 (laws_szStringS.f k l1 q1 = some q2))
  (F3 : Aside0 (laws_toAlarmS.f k l0 = some m0))
  (F4 : Aside0 (laws_toStringS.f k l1 = some s0))
  (F5 : Aside0 (spec_Keys.f k m0 s0 = some ks))
  (F6 : Aside0 (impl_Keys.f k m0 s0 = some ks))
  (F7 : Aside0 (laws_eqLabelSS.f k ks ks = some true))
  (F8 : Aside0 (laws_eqAlarmS.f k m0 m0 = some true))
  (F9 : Aside0 (laws_eqStringS.f k s0 s0 = some true))
  (F10 : Aside0 (laws_markAlarmS.f k m0 1 = some (e1, m1)))
  (F11 : Aside0 (laws_markStringS.f k s0 e1 = some (e2, s1)))
  (F12 : Aside0 (laws_markLabelSS.f k ks 1 = some (e3, kk)))
  (F13 : Aside0 (laws_heldLabelSS.f k kk 1 = some e3))
  (K0 : Aside0 (decide (q1 < 0) = false))
  (K1 : Aside0 (decide (q2 < 0) = false))
  (K2 : Aside0 (decide (e2 < 0) = false))
  (K3 : Aside0 (decide (e3 < 0) = false))
  (K4 : Aside0 ((e3 != e3) = false)) :
  Calls Try.prog 8 #[.slice A0 l0.length c0, .slice A1 l1.length c1] w fun e w' => e = .returned (.bool true) ∧ Below w.heap.size w w' := by
 have Hc0 := aM hc0
 have Hc1 := aM hc1
 have HR0 := aM hr0
 have HR1 := aM hr1
 have G := (Gs.below w).add (Gs.top (Nat.le_refl w.heap.size))
 clear hc0 hc1 hr0 hr1
 go_enter Try.func8, Try.ntmps8
 go_upto_region 1 with (fail)
 go_upto_region 2 with (fail)
 go_upto_region 3 with (first | ((with_reducible refine gate_callee (f := 44) rfl ?_); refine goesL_ (some 16) rfl rfl Try.func44 (by kernel_rfl) rfl #[.slice A0 l0.length c0, .int .i64 1048576] rfl (by (try simp only [List.map_toArray, List.map_cons, List.map_nil]); first | done | rfl) ?_; refine (laws_szAlarmS.calls k _ _ l0 1048576 q1 _ (Kd.C_below HR0.out G.at_.1) Hc0.out F1.out).mono ?_; rintro e w1 ⟨rfl, hb⟩; refine ⟨_, rfl, ?_⟩; have G1 := (G.go hb); clear G hb; have G := G1; clear G1))
 have hk0_ := K0.out
 go_upto_region 5 with (fail)
 go_upto_region 6 with (first | ((with_reducible refine gate_callee (f := 45) rfl ?_); refine goesL_ (some 21) rfl rfl Try.func45 (by kernel_rfl) rfl #[.slice A1 l1.length c1, .int .i64 q1] rfl (by (try simp only [List.map_toArray, List.map_cons, List.map_nil]); first | done | rfl) ?_; refine (laws_szStringS.calls k _ _ l1 q1 q2 _ (Kd.C_below HR1.out G.at_.1) Hc1.out F2.out).mono ?_; rintro e w1 ⟨rfl, hb⟩; refine ⟨_, rfl, ?_⟩; have G1 := (G.go hb.below); clear G hb; have G := G1; clear G1))
 have hk1_ := K1.out
 go_upto_region 8 with (fail)
 go_upto_region 9 with (first | ((with_reducible refine gate_callee (f := 47) rfl ?_); refine goesL_ (some 25) rfl rfl Try.func47 (by kernel_rfl) rfl #[.slice A0 l0.length c0] rfl (by (try simp only [List.map_toArray, List.map_cons, List.map_nil]); first | done | rfl) ?_; refine (laws_toAlarmS.calls k _ _ l0 m0 _ (Kd.C_below HR0.out G.at_.1) Hc0.out F3.out).mono ?_; rintro e w1 ⟨v25_0, rfl, ho25_0, hb⟩; refine ⟨_, rfl, ?_⟩; obtain ⟨A25_0, c25_0, rfl, _, _⟩ := Kd.S_reads ho25_0; obtain ⟨loA25_0, hiA25_0, hOA25_0, hTA25_0, hSA25_0⟩ := newS G.at_.2 G.at_.1 hb ho25_0; have OA25_0 := aM hOA25_0; clear hOA25_0 ho25_0; have G1 := (((G.go hb).add (Gs.ownS hSA25_0)).add (Gs.top hTA25_0)); clear G hb hSA25_0 hTA25_0; have G := G1; clear G1) | ((with_reducible refine gate_callee (f := 48) rfl ?_); refine goesL_ (some 27) rfl rfl Try.func48 (by kernel_rfl) rfl #[.slice A1 l1.length c1] rfl (by (try simp only [List.map_toArray, List.map_cons, List.map_nil]); first | done | rfl) ?_; refine (laws_toStringS.calls k _ _ l1 s0 _ (Kd.C_below HR1.out G.at_.1.1.1) Hc1.out F4.out).mono ?_; rintro e w1 ⟨v27_0, rfl, ho27_0, hb⟩; refine ⟨_, rfl, ?_⟩; obtain ⟨A27_0, c27_0, rfl, _, _⟩ := Kd.R_reads ho27_0; obtain ⟨loA27_0, hiA27_0, hOA27_0, hTA27_0, hSA27_0⟩ := newR G.at_.2 G.at_.1.1.1 hb ho27_0; have OA27_0 := aM hOA27_0; clear hOA27_0 ho27_0; have G1 := (((G.go hb).add (Gs.ownR hSA27_0)).add (Gs.top hTA27_0)); clear G hb hSA27_0 hTA27_0; have G := G1; clear G1) | ((with_reducible refine gate_callee (f := 46) rfl ?_); refine goesL_ (some 28) rfl rfl Try.func46 (by kernel_rfl) rfl #[.slice A25_0 m0.length c25_0, .slice A27_0 s0.length c27_0] rfl (by (try simp only [List.map_toArray, List.map_cons, List.map_nil]); first | done | rfl) ?_; refine (spec_Keys.calls k _ _ m0 _ _ s0 ks _ (Kd.S_reads' G.at_.1.1.1.2).2.2 ((Kd.S_reads' G.at_.1.1.1.2).1 ▸ (Kd.S_reads' G.at_.1.1.1.2).2.1) (Kd.R_reads' G.at_.1.2).2.2 ((Kd.R_reads' G.at_.1.2).1 ▸ (Kd.R_reads' G.at_.1.2).2.1) F5.out).mono ?_; rintro e w1 ⟨v28_0, rfl, ho28_0, hb⟩; refine ⟨_, rfl, ?_⟩; obtain ⟨A28_0, c28_0, rfl, _, _⟩ := Kd.S_reads ho28_0; obtain ⟨loA28_0, hiA28_0, hOA28_0, hTA28_0, hSA28_0⟩ := newS G.at_.2 G.at_.1.1.1.1.1 hb ho28_0; have OA28_0 := aM hOA28_0; clear hOA28_0 ho28_0; have G1 := (((G.go hb).add (Gs.ownS hSA28_0)).add (Gs.top hTA28_0)); clear G hb hSA28_0 hTA28_0; have G := G1; clear G1))
 go_upto_region 10 with (first | ((with_reducible refine gate_callee (f := 47) rfl ?_); refine goesL_ (some 30) rfl rfl Try.func47 (by kernel_rfl) rfl #[.slice A0 l0.length c0] rfl (by (try simp only [List.map_toArray, List.map_cons, List.map_nil]); first | done | rfl) ?_; refine (laws_toAlarmS.calls k _ _ l0 m0 _ (Kd.C_below HR0.out G.at_.1.1.1.1.1.1.1) Hc0.out F3.out).mono ?_; rintro e w1 ⟨v30_0, rfl, ho30_0, hb⟩; refine ⟨_, rfl, ?_⟩; obtain ⟨A30_0, c30_0, rfl, _, _⟩ := Kd.S_reads ho30_0; obtain ⟨loA30_0, hiA30_0, hOA30_0, hTA30_0, hSA30_0⟩ := newS G.at_.2 G.at_.1.1.1.1.1.1.1 hb ho30_0; have OA30_0 := aM hOA30_0; clear hOA30_0 ho30_0; have G1 := (((G.go hb).add (Gs.ownS hSA30_0)).add (Gs.top hTA30_0)); clear G hb hSA30_0 hTA30_0; have G := G1; clear G1))
 go_upto_region 11 with (first | ((with_reducible refine gate_callee (f := 48) rfl ?_); refine goesL_ (some 32) rfl rfl Try.func48 (by kernel_rfl) rfl #[.slice A1 l1.length c1] rfl (by (try simp only [List.map_toArray, List.map_cons, List.map_nil]); first | done | rfl) ?_; refine (laws_toStringS.calls k _ _ l1 s0 _ (Kd.C_below HR1.out G.at_.1.1.1.1.1.1.1.1.1) Hc1.out F4.out).mono ?_; rintro e w1 ⟨v32_0, rfl, ho32_0, hb⟩; refine ⟨_, rfl, ?_⟩; obtain ⟨A32_0, c32_0, rfl, _, _⟩ := Kd.R_reads ho32_0; obtain ⟨loA32_0, hiA32_0, hOA32_0, hTA32_0, hSA32_0⟩ := newR G.at_.2 G.at_.1.1.1.1.1.1.1.1.1 hb ho32_0; have OA32_0 := aM hOA32_0; clear hOA32_0 ho32_0; have G1 := (((G.go hb).add (Gs.ownR hSA32_0)).add (Gs.top hTA32_0)); clear G hb hSA32_0 hTA32_0; have G := G1; clear G1))
 go_upto_region 12 with (first | ((with_reducible refine gate_callee (f := 49) rfl ?_); refine goesL_ (some 35) rfl rfl Try.func49 (by kernel_rfl) rfl #[.slice A30_0 m0.length c30_0, .slice A32_0 s0.length c32_0] rfl (by (try simp only [List.map_toArray, List.map_cons, List.map_nil]); first | done | rfl) ?_; refine (impl_Keys.calls k _ _ m0 _ _ s0 ks _ (Kd.S_reads' G.at_.1.1.1.2).2.2 ((Kd.S_reads' G.at_.1.1.1.2).1 ▸ (Kd.S_reads' G.at_.1.1.1.2).2.1) (Kd.R_reads' G.at_.1.2).2.2 ((Kd.R_reads' G.at_.1.2).1 ▸ (Kd.R_reads' G.at_.1.2).2.1) F6.out).mono ?_; rintro e w1 ⟨v35_0, rfl, ho35_0, hb⟩; refine ⟨_, rfl, ?_⟩; obtain ⟨A35_0, c35_0, rfl, _, _⟩ := Kd.S_reads ho35_0; obtain ⟨loA35_0, hiA35_0, hOA35_0, hTA35_0, hSA35_0⟩ := newS G.at_.2 G.at_.1.1.1.1.1.1.1.1.1.1.1 hb ho35_0; have OA35_0 := aM hOA35_0; clear hOA35_0 ho35_0; have G1 := (((G.go hb).add (Gs.ownS hSA35_0)).add (Gs.top hTA35_0)); clear G hb hSA35_0 hTA35_0; have G := G1; clear G1))
 go_upto_region 14 with (first | ((with_reducible refine gate_callee (f := 50) rfl ?_); refine goesL_ (some 38) rfl rfl Try.func50 (by kernel_rfl) rfl #[.slice A35_0 ks.length c35_0, .slice A28_0 ks.length c28_0] rfl (by (try simp only [List.map_toArray, List.map_cons, List.map_nil]); first | done | rfl) ?_; refine (laws_eqLabelSS.calls k _ _ ks _ _ ks true _ (Kd.S_reads' G.at_.1.2).2.2 ((Kd.S_reads' G.at_.1.2).1 ▸ (Kd.S_reads' G.at_.1.2).2.1) (Kd.S_reads' G.at_.1.1.1.1.1.1.1.2).2.2 ((Kd.S_reads' G.at_.1.1.1.1.1.1.1.2).1 ▸ (Kd.S_reads' G.at_.1.1.1.1.1.1.1.2).2.1) F7.out).mono ?_; rintro e w1 ⟨rfl, hb⟩; refine ⟨_, rfl, ?_⟩; have G1 := (G.go hb); clear G hb; have G := G1; clear G1))
 go_upto_region 16 with (first | ((with_reducible refine gate_callee (f := 47) rfl ?_); refine goesL_ (some 42) rfl rfl Try.func47 (by kernel_rfl) rfl #[.slice A0 l0.length c0] rfl (by (try simp only [List.map_toArray, List.map_cons, List.map_nil]); first | done | rfl) ?_; refine (laws_toAlarmS.calls k _ _ l0 m0 _ (Kd.C_below HR0.out G.at_.1.1.1.1.1.1.1.1.1.1.1.1.1) Hc0.out F3.out).mono ?_; rintro e w1 ⟨v42_0, rfl, ho42_0, hb⟩; refine ⟨_, rfl, ?_⟩; obtain ⟨A42_0, c42_0, rfl, _, _⟩ := Kd.S_reads ho42_0; obtain ⟨loA42_0, hiA42_0, hOA42_0, hTA42_0, hSA42_0⟩ := newS G.at_.2 G.at_.1.1.1.1.1.1.1.1.1.1.1.1.1 hb ho42_0; have OA42_0 := aM hOA42_0; clear hOA42_0 ho42_0; have G1 := (((G.go hb).add (Gs.ownS hSA42_0)).add (Gs.top hTA42_0)); clear G hb hSA42_0 hTA42_0; have G := G1; clear G1) | ((with_reducible refine gate_callee (f := 24) rfl ?_); refine goesL_ (some 43) rfl rfl Try.func24 (by kernel_rfl) rfl #[.slice A30_0 m0.length c30_0, .slice A42_0 m0.length c42_0] rfl (by (try simp only [List.map_toArray, List.map_cons, List.map_nil]); first | done | rfl) ?_; refine (laws_eqAlarmS.calls k _ _ m0 _ _ m0 true _ (Kd.S_reads' G.at_.1.1.1.1.1.1.1.2).2.2 ((Kd.S_reads' G.at_.1.1.1.1.1.1.1.2).1 ▸ (Kd.S_reads' G.at_.1.1.1.1.1.1.1.2).2.1) (Kd.S_reads' G.at_.1.2).2.2 ((Kd.S_reads' G.at_.1.2).1 ▸ (Kd.S_reads' G.at_.1.2).2.1) F8.out).mono ?_; rintro e w1 ⟨rfl, hb⟩; refine ⟨_, rfl, ?_⟩; have G1 := (G.go hb); clear G hb; have G := G1; clear G1))
 go_upto_region 18 with (first | ((with_reducible refine gate_callee (f := 48) rfl ?_); refine goesL_ (some 47) rfl rfl Try.func48 (by kernel_rfl) rfl #[.slice A1 l1.length c1] rfl (by (try simp only [List.map_toArray, List.map_cons, List.map_nil]); first | done | rfl) ?_; refine (laws_toStringS.calls k _ _ l1 s0 _ (Kd.C_below HR1.out G.at_.1.1.1.1.1.1.1.1.1.1.1.1.1.1.1) Hc1.out F4.out).mono ?_; rintro e w1 ⟨v47_0, rfl, ho47_0, hb⟩; refine ⟨_, rfl, ?_⟩; obtain ⟨A47_0, c47_0, rfl, _, _⟩ := Kd.R_reads ho47_0; obtain ⟨loA47_0, hiA47_0, hOA47_0, hTA47_0, hSA47_0⟩ := newR G.at_.2 G.at_.1.1.1.1.1.1.1.1.1.1.1.1.1.1.1 hb ho47_0; have OA47_0 := aM hOA47_0; clear hOA47_0 ho47_0; have G1 := (((G.go hb).add (Gs.ownR hSA47_0)).add (Gs.top hTA47_0)); clear G hb hSA47_0 hTA47_0; have G := G1; clear G1) | ((with_reducible refine gate_callee (f := 51) rfl ?_); refine goesL_ (some 48) rfl rfl Try.func51 (by kernel_rfl) rfl #[.slice A32_0 s0.length c32_0, .slice A47_0 s0.length c47_0] rfl (by (try simp only [List.map_toArray, List.map_cons, List.map_nil]); first | done | rfl) ?_; refine (laws_eqStringS.calls k _ _ s0 _ _ s0 true _ (Kd.R_reads' G.at_.1.1.1.1.1.1.1.2).2.2 ((Kd.R_reads' G.at_.1.1.1.1.1.1.1.2).1 ▸ (Kd.R_reads' G.at_.1.1.1.1.1.1.1.2).2.1) (Kd.R_reads' G.at_.1.2).2.2 ((Kd.R_reads' G.at_.1.2).1 ▸ (Kd.R_reads' G.at_.1.2).2.1) F9.out).mono ?_; rintro e w1 ⟨rfl, hb⟩; refine ⟨_, rfl, ?_⟩; have G1 := (G.go hb.below); clear G hb; have G := G1; clear G1))
 go_upto_region 19 with (fail)
 go_upto_region 20 with (first | ((with_reducible refine gate_callee (f := 26) rfl ?_); refine goesL_ (some 52) rfl rfl Try.func26 (by kernel_rfl) rfl #[.slice A30_0 m0.length c30_0, .int .i64 1] rfl (by (try simp only [List.map_toArray, List.map_cons, List.map_nil]); first | done | rfl) ?_; refine (laws_markAlarmS.calls k (Iv loA30_0 hiA30_0) _ _ m0 1 e1 m1 w _ G.at_.1.1.1.1.1.1.1.1.1.1.1.1.1.1.1.1.1 G.at_.1.1.1.1.1.1.1.1.1.2 F10.out).mono ?_; rintro e w1 ⟨rfl, hy, hb, hk⟩; refine ⟨_, rfl, ?_⟩; have G1 := ((((((((((((((((((Gs.bel hb).add (Gs.top (Nat.le_trans G.at_.1.1.1.1.1.1.1.1.1.1.1.1.1.1.1.1.2 hk.1))).add (Gs.ownS (Kd.S_kept G.at_.1.1.1.1.1.1.1.1.1.1.1.1.1.1.1.2 hk (fun k_ h1_ h2_ => (by unfold Iv at *; have o0_ := OA25_0.out; have o1_ := OA27_0.out; have o2_ := OA28_0.out; have o3_ := OA30_0.out; have o4_ := OA32_0.out; have o5_ := OA35_0.out; have o6_ := OA42_0.out; have o7_ := OA47_0.out; omega))))).add (Gs.top (Nat.le_trans G.at_.1.1.1.1.1.1.1.1.1.1.1.1.1.1.2 hk.1))).add (Gs.ownR (Kd.R_kept G.at_.1.1.1.1.1.1.1.1.1.1.1.1.1.2 hk (fun k_ h1_ h2_ => (by unfold Iv at *; have o0_ := OA25_0.out; have o1_ := OA27_0.out; have o2_ := OA28_0.out; have o3_ := OA30_0.out; have o4_ := OA32_0.out; have o5_ := OA35_0.out; have o6_ := OA42_0.out; have o7_ := OA47_0.out; omega))))).add (Gs.top (Nat.le_trans G.at_.1.1.1.1.1.1.1.1.1.1.1.1.2 hk.1))).add (Gs.ownS (Kd.S_kept G.at_.1.1.1.1.1.1.1.1.1.1.1.2 hk (fun k_ h1_ h2_ => (by unfold Iv at *; have o0_ := OA25_0.out; have o1_ := OA27_0.out; have o2_ := OA28_0.out; have o3_ := OA30_0.out; have o4_ := OA32_0.out; have o5_ := OA35_0.out; have o6_ := OA42_0.out; have o7_ := OA47_0.out; omega))))).add (Gs.top (Nat.le_trans G.at_.1.1.1.1.1.1.1.1.1.1.2 hk.1))).add (Gs.ownS hy)).add (Gs.top (Nat.le_trans G.at_.1.1.1.1.1.1.1.1.2 hk.1))).add (Gs.ownR (Kd.R_kept G.at_.1.1.1.1.1.1.1.2 hk (fun k_ h1_ h2_ => (by unfold Iv at *; have o0_ := OA25_0.out; have o1_ := OA27_0.out; have o2_ := OA28_0.out; have o3_ := OA30_0.out; have o4_ := OA32_0.out; have o5_ := OA35_0.out; have o6_ := OA42_0.out; have o7_ := OA47_0.out; omega))))).add (Gs.top (Nat.le_trans G.at_.1.1.1.1.1.1.2 hk.1))).add (Gs.ownS (Kd.S_kept G.at_.1.1.1.1.1.2 hk (fun k_ h1_ h2_ => (by unfold Iv at *; have o0_ := OA25_0.out; have o1_ := OA27_0.out; have o2_ := OA28_0.out; have o3_ := OA30_0.out; have o4_ := OA32_0.out; have o5_ := OA35_0.out; have o6_ := OA42_0.out; have o7_ := OA47_0.out; omega))))).add (Gs.top (Nat.le_trans G.at_.1.1.1.1.2 hk.1))).add (Gs.ownS (Kd.S_kept G.at_.1.1.1.2 hk (fun k_ h1_ h2_ => (by unfold Iv at *; have o0_ := OA25_0.out; have o1_ := OA27_0.out; have o2_ := OA28_0.out; have o3_ := OA30_0.out; have o4_ := OA32_0.out; have o5_ := OA35_0.out; have o6_ := OA42_0.out; have o7_ := OA47_0.out; omega))))).add (Gs.top (Nat.le_trans G.at_.1.1.2 hk.1))).add (Gs.ownR (Kd.R_kept G.at_.1.2 hk (fun k_ h1_ h2_ => (by unfold Iv at *; have o0_ := OA25_0.out; have o1_ := OA27_0.out; have o2_ := OA28_0.out; have o3_ := OA30_0.out; have o4_ := OA32_0.out; have o5_ := OA35_0.out; have o6_ := OA42_0.out; have o7_ := OA47_0.out; omega))))).add (Gs.top (Nat.le_trans G.at_.2 hk.1))); have HLA30_0 := aM (Kd.S_reads' hy).1.symm; clear G hy hb hk; have G := G1; clear G1))
 go_upto_region 21 with (first | ((with_reducible refine gate_callee (f := 52) rfl ?_); refine goesL_ (some 55) rfl rfl Try.func52 (by kernel_rfl) rfl #[.slice A32_0 s0.length c32_0, .int .i64 e1] rfl (by (try simp only [List.map_toArray, List.map_cons, List.map_nil]); first | done | rfl) ?_; refine (laws_markStringS.calls k (Iv loA32_0 hiA32_0) (.slice A32_0 s0.length c32_0) s0 e1 e2 s1 w _ G.at_.1.1.1.1.1.1.1.1.1.1.1.1.1.1.1.1.1 G.at_.1.1.1.1.1.1.1.2 F11.out).mono ?_; rintro e w1 ⟨rfl, hy, hb, hk⟩; refine ⟨_, rfl, ?_⟩; have G1 := ((((((((((((((((((Gs.bel hb).add (Gs.top (Nat.le_trans G.at_.1.1.1.1.1.1.1.1.1.1.1.1.1.1.1.1.2 hk.1))).add (Gs.ownS (Kd.S_kept G.at_.1.1.1.1.1.1.1.1.1.1.1.1.1.1.1.2 hk (fun k_ h1_ h2_ => (by unfold Iv at *; have o0_ := OA25_0.out; have o1_ := OA27_0.out; have o2_ := OA28_0.out; have o3_ := OA30_0.out; have o4_ := OA32_0.out; have o5_ := OA35_0.out; have o6_ := OA42_0.out; have o7_ := OA47_0.out; omega))))).add (Gs.top (Nat.le_trans G.at_.1.1.1.1.1.1.1.1.1.1.1.1.1.1.2 hk.1))).add (Gs.ownR (Kd.R_kept G.at_.1.1.1.1.1.1.1.1.1.1.1.1.1.2 hk (fun k_ h1_ h2_ => (by unfold Iv at *; have o0_ := OA25_0.out; have o1_ := OA27_0.out; have o2_ := OA28_0.out; have o3_ := OA30_0.out; have o4_ := OA32_0.out; have o5_ := OA35_0.out; have o6_ := OA42_0.out; have o7_ := OA47_0.out; omega))))).add (Gs.top (Nat.le_trans G.at_.1.1.1.1.1.1.1.1.1.1.1.1.2 hk.1))).add (Gs.ownS (Kd.S_kept G.at_.1.1.1.1.1.1.1.1.1.1.1.2 hk (fun k_ h1_ h2_ => (by unfold Iv at *; have o0_ := OA25_0.out; have o1_ := OA27_0.out; have o2_ := OA28_0.out; have o3_ := OA30_0.out; have o4_ := OA32_0.out; have o5_ := OA35_0.out; have o6_ := OA42_0.out; have o7_ := OA47_0.out; omega))))).add (Gs.top (Nat.le_trans G.at_.1.1.1.1.1.1.1.1.1.1.2 hk.1))).add (Gs.ownS (Kd.S_kept G.at_.1.1.1.1.1.1.1.1.1.2 hk (fun k_ h1_ h2_ => (by unfold Iv at *; have o0_ := OA25_0.out; have o1_ := OA27_0.out; have o2_ := OA28_0.out; have o3_ := OA30_0.out; have o4_ := OA32_0.out; have o5_ := OA35_0.out; have o6_ := OA42_0.out; have o7_ := OA47_0.out; omega))))).add (Gs.top (Nat.le_trans G.at_.1.1.1.1.1.1.1.1.2 hk.1))).add (Gs.ownR (Kd.R_reok rfl hy (fun k_ e_ => G.at_.1.1.1.1.1.1.1.2.1 k_ e_)))).add (Gs.top (Nat.le_trans G.at_.1.1.1.1.1.1.2 hk.1))).add (Gs.ownS (Kd.S_kept G.at_.1.1.1.1.1.2 hk (fun k_ h1_ h2_ => (by unfold Iv at *; have o0_ := OA25_0.out; have o1_ := OA27_0.out; have o2_ := OA28_0.out; have o3_ := OA30_0.out; have o4_ := OA32_0.out; have o5_ := OA35_0.out; have o6_ := OA42_0.out; have o7_ := OA47_0.out; omega))))).add (Gs.top (Nat.le_trans G.at_.1.1.1.1.2 hk.1))).add (Gs.ownS (Kd.S_kept G.at_.1.1.1.2 hk (fun k_ h1_ h2_ => (by unfold Iv at *; have o0_ := OA25_0.out; have o1_ := OA27_0.out; have o2_ := OA28_0.out; have o3_ := OA30_0.out; have o4_ := OA32_0.out; have o5_ := OA35_0.out; have o6_ := OA42_0.out; have o7_ := OA47_0.out; omega))))).add (Gs.top (Nat.le_trans G.at_.1.1.2 hk.1))).add (Gs.ownR (Kd.R_kept G.at_.1.2 hk (fun k_ h1_ h2_ => (by unfold Iv at *; have o0_ := OA25_0.out; have o1_ := OA27_0.out; have o2_ := OA28_0.out; have o3_ := OA30_0.out; have o4_ := OA32_0.out; have o5_ := OA35_0.out; have o6_ := OA42_0.out; have o7_ := OA47_0.out; omega))))).add (Gs.top (Nat.le_trans G.at_.2 hk.1))); have HLA32_0 := aM (Kd.R_reads' hy).1.symm; clear G hy hb hk; have G := G1; clear G1))
 have hk2_ := K2.out
 go_upto_region 23 with (first | ((with_reducible refine gate_callee (f := 50) rfl ?_); refine gate_guard (by rfl) ?_; refine goesL_ (some 61) rfl rfl Try.func50 (by kernel_rfl) rfl #[.slice A35_0 ks.length c35_0, .slice A28_0 ks.length c28_0] rfl (by (try simp only [List.map_toArray, List.map_cons, List.map_nil]); first | done | rfl) ?_; refine (laws_eqLabelSS.calls k _ _ ks _ _ ks true _ (Kd.S_reads' G.at_.1.1.1.1.1.2).2.2 ((Kd.S_reads' G.at_.1.1.1.1.1.2).1 ▸ (Kd.S_reads' G.at_.1.1.1.1.1.2).2.1) (Kd.S_reads' G.at_.1.1.1.1.1.1.1.1.1.1.1.2).2.2 ((Kd.S_reads' G.at_.1.1.1.1.1.1.1.1.1.1.1.2).1 ▸ (Kd.S_reads' G.at_.1.1.1.1.1.1.1.1.1.1.1.2).2.1) F7.out).mono ?_; rintro e w1 ⟨rfl, hb⟩; refine ⟨_, rfl, ?_⟩; have G1 := (G.go hb); clear G hb; have G := G1; clear G1))
 go_upto_region 24 with (fail)
 go_upto_region 25 with (first | ((with_reducible refine gate_callee (f := 53) rfl ?_); refine goesL_ (some 66) rfl rfl Try.func53 (by kernel_rfl) rfl #[.slice A35_0 ks.length c35_0, .int .i64 1] rfl (by (try simp only [List.map_toArray, List.map_cons, List.map_nil]); first | done | rfl) ?_; refine (laws_markLabelSS.calls k (Iv loA35_0 hiA35_0) _ _ ks 1 e3 kk w _ G.at_.1.1.1.1.1.1.1.1.1.1.1.1.1.1.1.1.1 G.at_.1.1.1.1.1.2 F12.out).mono ?_; rintro e w1 ⟨rfl, hy, hb, hk⟩; refine ⟨_, rfl, ?_⟩; have G1 := ((((((((((((((((((Gs.bel hb).add (Gs.top (Nat.le_trans G.at_.1.1.1.1.1.1.1.1.1.1.1.1.1.1.1.1.2 hk.1))).add (Gs.ownS (Kd.S_kept G.at_.1.1.1.1.1.1.1.1.1.1.1.1.1.1.1.2 hk (fun k_ h1_ h2_ => (by unfold Iv at *; have o0_ := OA25_0.out; have o1_ := OA27_0.out; have o2_ := OA28_0.out; have o3_ := OA30_0.out; have o4_ := OA32_0.out; have o5_ := OA35_0.out; have o6_ := OA42_0.out; have o7_ := OA47_0.out; omega))))).add (Gs.top (Nat.le_trans G.at_.1.1.1.1.1.1.1.1.1.1.1.1.1.1.2 hk.1))).add (Gs.ownR (Kd.R_kept G.at_.1.1.1.1.1.1.1.1.1.1.1.1.1.2 hk (fun k_ h1_ h2_ => (by unfold Iv at *; have o0_ := OA25_0.out; have o1_ := OA27_0.out; have o2_ := OA28_0.out; have o3_ := OA30_0.out; have o4_ := OA32_0.out; have o5_ := OA35_0.out; have o6_ := OA42_0.out; have o7_ := OA47_0.out; omega))))).add (Gs.top (Nat.le_trans G.at_.1.1.1.1.1.1.1.1.1.1.1.1.2 hk.1))).add (Gs.ownS (Kd.S_kept G.at_.1.1.1.1.1.1.1.1.1.1.1.2 hk (fun k_ h1_ h2_ => (by unfold Iv at *; have o0_ := OA25_0.out; have o1_ := OA27_0.out; have o2_ := OA28_0.out; have o3_ := OA30_0.out; have o4_ := OA32_0.out; have o5_ := OA35_0.out; have o6_ := OA42_0.out; have o7_ := OA47_0.out; omega))))).add (Gs.top (Nat.le_trans G.at_.1.1.1.1.1.1.1.1.1.1.2 hk.1))).add (Gs.ownS (Kd.S_kept G.at_.1.1.1.1.1.1.1.1.1.2 hk (fun k_ h1_ h2_ => (by unfold Iv at *; have o0_ := OA25_0.out; have o1_ := OA27_0.out; have o2_ := OA28_0.out; have o3_ := OA30_0.out; have o4_ := OA32_0.out; have o5_ := OA35_0.out; have o6_ := OA42_0.out; have o7_ := OA47_0.out; omega))))).add (Gs.top (Nat.le_trans G.at_.1.1.1.1.1.1.1.1.2 hk.1))).add (Gs.ownR (Kd.R_kept G.at_.1.1.1.1.1.1.1.2 hk (fun k_ h1_ h2_ => (by unfold Iv at *; have o0_ := OA25_0.out; have o1_ := OA27_0.out; have o2_ := OA28_0.out; have o3_ := OA30_0.out; have o4_ := OA32_0.out; have o5_ := OA35_0.out; have o6_ := OA42_0.out; have o7_ := OA47_0.out; omega))))).add (Gs.top (Nat.le_trans G.at_.1.1.1.1.1.1.2 hk.1))).add (Gs.ownS hy)).add (Gs.top (Nat.le_trans G.at_.1.1.1.1.2 hk.1))).add (Gs.ownS (Kd.S_kept G.at_.1.1.1.2 hk (fun k_ h1_ h2_ => (by unfold Iv at *; have o0_ := OA25_0.out; have o1_ := OA27_0.out; have o2_ := OA28_0.out; have o3_ := OA30_0.out; have o4_ := OA32_0.out; have o5_ := OA35_0.out; have o6_ := OA42_0.out; have o7_ := OA47_0.out; omega))))).add (Gs.top (Nat.le_trans G.at_.1.1.2 hk.1))).add (Gs.ownR (Kd.R_kept G.at_.1.2 hk (fun k_ h1_ h2_ => (by unfold Iv at *; have o0_ := OA25_0.out; have o1_ := OA27_0.out; have o2_ := OA28_0.out; have o3_ := OA30_0.out; have o4_ := OA32_0.out; have o5_ := OA35_0.out; have o6_ := OA42_0.out; have o7_ := OA47_0.out; omega))))).add (Gs.top (Nat.le_trans G.at_.2 hk.1))); have HLA35_0 := aM (Kd.S_reads' hy).1.symm; clear G hy hb hk; have G := G1; clear G1))
 go_upto_region 26 with (fail)
 go_upto_region 27 with (first | ((with_reducible refine gate_callee (f := 54) rfl ?_); refine goesL_ (some 69) rfl rfl Try.func54 (by kernel_rfl) rfl #[.slice A35_0 kk.length c35_0, .int .i64 1] rfl (by (try simp only [List.map_toArray, List.map_cons, List.map_nil]); first | done | rfl | (simp only [HLA30_0.out, HLA32_0.out, HLA35_0.out]; rfl)) ?_; refine (laws_heldLabelSS.calls k _ _ kk 1 e3 _ (Kd.S_reads' G.at_.1.1.1.1.1.2).2.2 ((Kd.S_reads' G.at_.1.1.1.1.1.2).1 ▸ (Kd.S_reads' G.at_.1.1.1.1.1.2).2.1) F13.out).mono ?_; rintro e w1 ⟨rfl, hb⟩; refine ⟨_, rfl, ?_⟩; have G1 := (G.go hb); clear G hb; have G := G1; clear G1))
 have hk3_ := K3.out
 go_upto_region 29 with (fail)
 have hk4_ := K4.out
 go_upto_region 31 with (fail)
 go_upto_region 32 with (first | ((with_reducible refine gate_callee (f := 47) rfl ?_); refine goesL_ (some 76) rfl rfl Try.func47 (by kernel_rfl) rfl #[.slice A0 l0.length c0] rfl (by (try simp only [List.map_toArray, List.map_cons, List.map_nil]); first | done | rfl) ?_; refine (laws_toAlarmS.calls k _ _ l0 m0 _ (Kd.C_below HR0.out G.at_.1.1.1.1.1.1.1.1.1.1.1.1.1.1.1.1.1) Hc0.out F3.out).mono ?_; rintro e w1 ⟨v76_0, rfl, ho76_0, hb⟩; refine ⟨_, rfl, ?_⟩; obtain ⟨A76_0, c76_0, rfl, _, _⟩ := Kd.S_reads ho76_0; obtain ⟨loA76_0, hiA76_0, hOA76_0, hTA76_0, hSA76_0⟩ := newS G.at_.2 G.at_.1.1.1.1.1.1.1.1.1.1.1.1.1.1.1.1.1 hb ho76_0; have OA76_0 := aM hOA76_0; clear hOA76_0 ho76_0; have G1 := (((G.go hb).add (Gs.ownS hSA76_0)).add (Gs.top hTA76_0)); clear G hb hSA76_0 hTA76_0; have G := G1; clear G1) | ((with_reducible refine gate_callee (f := 48) rfl ?_); refine goesL_ (some 78) rfl rfl Try.func48 (by kernel_rfl) rfl #[.slice A1 l1.length c1] rfl (by (try simp only [List.map_toArray, List.map_cons, List.map_nil]); first | done | rfl) ?_; refine (laws_toStringS.calls k _ _ l1 s0 _ (Kd.C_below HR1.out G.at_.1.1.1.1.1.1.1.1.1.1.1.1.1.1.1.1.1.1.1) Hc1.out F4.out).mono ?_; rintro e w1 ⟨v78_0, rfl, ho78_0, hb⟩; refine ⟨_, rfl, ?_⟩; obtain ⟨A78_0, c78_0, rfl, _, _⟩ := Kd.R_reads ho78_0; obtain ⟨loA78_0, hiA78_0, hOA78_0, hTA78_0, hSA78_0⟩ := newR G.at_.2 G.at_.1.1.1.1.1.1.1.1.1.1.1.1.1.1.1.1.1.1.1 hb ho78_0; have OA78_0 := aM hOA78_0; clear hOA78_0 ho78_0; have G1 := (((G.go hb).add (Gs.ownR hSA78_0)).add (Gs.top hTA78_0)); clear G hb hSA78_0 hTA78_0; have G := G1; clear G1) | ((with_reducible refine gate_callee (f := 49) rfl ?_); refine goesL_ (some 79) rfl rfl Try.func49 (by kernel_rfl) rfl #[.slice A76_0 m0.length c76_0, .slice A78_0 s0.length c78_0] rfl (by (try simp only [List.map_toArray, List.map_cons, List.map_nil]); first | done | rfl) ?_; refine (impl_Keys.calls k _ _ m0 _ _ s0 ks _ (Kd.S_reads' G.at_.1.1.1.2).2.2 ((Kd.S_reads' G.at_.1.1.1.2).1 ▸ (Kd.S_reads' G.at_.1.1.1.2).2.1) (Kd.R_reads' G.at_.1.2).2.2 ((Kd.R_reads' G.at_.1.2).1 ▸ (Kd.R_reads' G.at_.1.2).2.1) F6.out).mono ?_; rintro e w1 ⟨v79_0, rfl, ho79_0, hb⟩; refine ⟨_, rfl, ?_⟩; obtain ⟨A79_0, c79_0, rfl, _, _⟩ := Kd.S_reads ho79_0; obtain ⟨loA79_0, hiA79_0, hOA79_0, hTA79_0, hSA79_0⟩ := newS G.at_.2 G.at_.1.1.1.1.1.1.1.1.1.1.1.1.1.1.1.1.1.1.1.1.1 hb ho79_0; have OA79_0 := aM hOA79_0; clear hOA79_0 ho79_0; have G1 := (((G.go hb).add (Gs.ownS hSA79_0)).add (Gs.top hTA79_0)); clear G hb hSA79_0 hTA79_0; have G := G1; clear G1))
 go_upto_region 34 with (first | ((with_reducible refine gate_callee (f := 50) rfl ?_); refine goesL_ (some 82) rfl rfl Try.func50 (by kernel_rfl) rfl #[.slice A79_0 ks.length c79_0, .slice A28_0 ks.length c28_0] rfl (by (try simp only [List.map_toArray, List.map_cons, List.map_nil]); first | done | rfl) ?_; refine (laws_eqLabelSS.calls k _ _ ks _ _ ks true _ (Kd.S_reads' G.at_.1.2).2.2 ((Kd.S_reads' G.at_.1.2).1 ▸ (Kd.S_reads' G.at_.1.2).2.1) (Kd.S_reads' G.at_.1.1.1.1.1.1.1.1.1.1.1.1.1.1.1.1.1.2).2.2 ((Kd.S_reads' G.at_.1.1.1.1.1.1.1.1.1.1.1.1.1.1.1.1.1.2).1 ▸ (Kd.S_reads' G.at_.1.1.1.1.1.1.1.1.1.1.1.1.1.1.1.1.1.2).2.1) F7.out).mono ?_; rintro e w1 ⟨rfl, hb⟩; refine ⟨_, rfl, ?_⟩; have G1 := (G.go hb); clear G hb; have G := G1; clear G1))
 go_upto_region 35 with (fail)
 go_upto_region 36 with (first | ((with_reducible refine gate_callee (f := 54) rfl ?_); refine goesL_ (some 86) rfl rfl Try.func54 (by kernel_rfl) rfl #[.slice A35_0 kk.length c35_0, .int .i64 1] rfl (by (try simp only [List.map_toArray, List.map_cons, List.map_nil]); first | done | rfl | (simp only [HLA30_0.out, HLA32_0.out, HLA35_0.out]; rfl)) ?_; refine (laws_heldLabelSS.calls k _ _ kk 1 e3 _ (Kd.S_reads' G.at_.1.1.1.1.1.1.1.1.1.1.1.2).2.2 ((Kd.S_reads' G.at_.1.1.1.1.1.1.1.1.1.1.1.2).1 ▸ (Kd.S_reads' G.at_.1.1.1.1.1.1.1.1.1.1.1.2).2.1) F13.out).mono ?_; rintro e w1 ⟨rfl, hb⟩; refine ⟨_, rfl, ?_⟩; have G1 := (G.go hb); clear G hb; have G := G1; clear G1))
 have hk3_ := K3.out
 go_upto_region 38 with (fail)
 have hk4_ := K4.out
 go_upto_region 40 with (fail)
 try go_wp2
 try go_wp2
 go_ret
 exact ⟨rfl, G.at_.1.1.1.1.1.1.1.1.1.1.1.1.1.1.1.1.1.1.1.1.1.1.1⟩
/-- What each call of the law gives, at rounds k. -/
def laws_FnExactKeys.Facts (k : Nat) (l0 : List S62) (l1 : List ByteArray) : Prop := (∃ (q1 : Int), (laws_szAlarmS.f k l0 1048576 = some q1) ∧
  (decide (q1 < 0) = true)) ∨
  (∃ (q1 : Int) (q2 : Int), (laws_szAlarmS.f k l0 1048576 = some q1) ∧
  (laws_szStringS.f k l1 q1 = some q2) ∧
  (decide (q1 < 0) = false) ∧
  (decide (q2 < 0) = true)) ∨
  (∃ (q1 : Int) (q2 : Int) (m0 : List (S26)) (s0 : List ByteArray) (ks : List (List (S89))) (e1 : Int) (m1 : List (S26)) (e2 : Int) (s1 : List ByteArray) (e3 : Int) (kk : List (List (S89))), (laws_szAlarmS.f k l0 1048576 = some q1) ∧
  (laws_szStringS.f k l1 q1 = some q2) ∧
  (laws_toAlarmS.f k l0 = some m0) ∧
  (laws_toStringS.f k l1 = some s0) ∧
  (spec_Keys.f k m0 s0 = some ks) ∧
  (impl_Keys.f k m0 s0 = some ks) ∧
  (laws_eqLabelSS.f k ks ks = some true) ∧
  (laws_eqAlarmS.f k m0 m0 = some true) ∧
  (laws_eqStringS.f k s0 s0 = some true) ∧
  (laws_markAlarmS.f k m0 1 = some (e1, m1)) ∧
  (laws_markStringS.f k s0 e1 = some (e2, s1)) ∧
  (laws_markLabelSS.f k ks 1 = some (e3, kk)) ∧
  (laws_heldLabelSS.f k kk 1 = some e3) ∧
  (decide (q1 < 0) = false) ∧
  (decide (q2 < 0) = false) ∧
  (decide (e2 < 0) = false) ∧
  (decide (e3 < 0) = false) ∧
  ((e3 != e3) = false))
open Classical in
/-- What the law gives: true, where each call gives what the way wants. -/
noncomputable def laws_FnExactKeys.f (k : Nat) (l0 : List S62) (l1 : List ByteArray) : Option (Bool) := if laws_FnExactKeys.Facts k l0 l1 then some true else none
theorem laws_FnExactKeys.f_of {k : Nat} {l0 : List S62} {l1 : List ByteArray} (h : laws_FnExactKeys.Facts k l0 l1) : laws_FnExactKeys.f k l0 l1 = some true := if_pos h
theorem laws_FnExactKeys.calls (k : Nat) (A0 : Option Addr) (c0 : Nat) (l0 : List S62) (A1 : Option Addr) (c1 : Nat) (l1 : List ByteArray) (r : Bool) (w : World) (hr0 : Kd.C k62 w A0 l0.length l0) (hc0 : l0.length ≤ c0) (hr1 : Kd.C Kd.string w A1 l1.length l1) (hc1 : l1.length ≤ c1) (hr_ : Aside0 (r = true)) (h : laws_FnExactKeys.f k l0 l1 = some r) :
    Calls Try.prog 8 #[.slice A0 l0.length c0, .slice A1 l1.length c1] w fun e w' => e = .returned (.bool r) ∧ Below w.heap.size w w' := by
 unfold laws_FnExactKeys.f at h
 by_cases hf : laws_FnExactKeys.Facts k l0 l1
 · rw [if_pos hf] at h
   obtain rfl := Option.some.inj h
   rcases hf with hf | hf | hf
   · obtain ⟨q1, h_0, h_1⟩ := hf
     exact laws_FnExactKeys.early1 k A0 c0 l0 A1 c1 l1 w hr0 hc0 hr1 hc1 q1 ⟨h_0⟩ ⟨h_1⟩
   · obtain ⟨q1, q2, h_0, h_1, h_2, h_3⟩ := hf
     exact laws_FnExactKeys.early2 k A0 c0 l0 A1 c1 l1 w hr0 hc0 hr1 hc1 q1 q2 ⟨h_0⟩ ⟨h_1⟩ ⟨h_2⟩ ⟨h_3⟩
   · obtain ⟨q1, q2, m0, s0, ks, e1, m1, e2, s1, e3, kk, h_0, h_1, h_2, h_3, h_4, h_5, h_6, h_7, h_8, h_9, h_10, h_11, h_12, h_13, h_14, h_15, h_16, h_17⟩ := hf
     exact laws_FnExactKeys.way k A0 c0 l0 A1 c1 l1 w hr0 hc0 hr1 hc1 q1 q2 m0 s0 ks e1 m1 e2 s1 e3 kk ⟨h_0⟩ ⟨h_1⟩ ⟨h_2⟩ ⟨h_3⟩ ⟨h_4⟩ ⟨h_5⟩ ⟨h_6⟩ ⟨h_7⟩ ⟨h_8⟩ ⟨h_9⟩ ⟨h_10⟩ ⟨h_11⟩ ⟨h_12⟩ ⟨h_13⟩ ⟨h_14⟩ ⟨h_15⟩ ⟨h_16⟩ ⟨h_17⟩
 · rw [if_neg hf] at h
   cases h
end Go.Proofs.Ytgindocfjoalhaa.PFnExactKeys
