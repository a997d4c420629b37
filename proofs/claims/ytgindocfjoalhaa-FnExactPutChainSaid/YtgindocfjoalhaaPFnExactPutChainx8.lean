/- That FnExactPutChain answers true, out of what each of its calls gives; no conditions. -/
import Derived.Test.YtgindocfjoalhaaPFnExactPutChainx0
import Derived.Test.YtgindocfjoalhaaPFnExactPutChainx1
import Derived.Test.YtgindocfjoalhaaPFnExactPutChainx2
import Derived.Test.YtgindocfjoalhaaPFnExactPutChainx3
import Derived.Test.YtgindocfjoalhaaPFnExactPutChainx4
import Derived.Test.YtgindocfjoalhaaPFnExactPutChainx5
import Derived.Test.YtgindocfjoalhaaPFnExactPutChainx6
import Derived.Test.YtgindocfjoalhaaPFnExactPutChainx7
namespace Go.Proofs.Ytgindocfjoalhaa.PFnExactPutChain
open Go.RowKit Go.Proofs.YtgindocfjoalhaaW.PrintWords Go.Proofs.YtgindocfjoalhaaW.PrintLast Go.Proofs.YtgindocfjoalhaaW.PrintMore
attribute [local go_sem] max2_int min2_int max_two min_two max_three min_three max_four min_four   -- for this text's walks alone
set_option linter.unusedVariables false
set_option linter.unusedSimpArgs false

/-- What is told of the world stays told where only new blocks come up. -/
structure Gs (Φ : World → Prop) (W : World) : Prop where
  at_ : Φ W
  st : ∀ {V V' : World}, Below V.heap.size V V' → Φ V → Φ V'
theorem Gs.go {Φ : World → Prop} {W W' : World} (h : Gs Φ W) (hb : Below W.heap.size W W') : Gs Φ W' := ⟨h.st hb h.at_, h.st⟩
theorem Gs.add {Φ Ψ : World → Prop} {W : World} (h : Gs Φ W) (k : Gs Ψ W) : Gs (fun w => Φ w ∧ Ψ w) W := ⟨⟨h.at_, k.at_⟩, fun hb hp => ⟨h.st hb hp.1, k.st hb hp.2⟩⟩
theorem Gs.left {Φ Ψ : World → Prop} {W : World} (h : Gs Φ W) (hd : ∀ {V V' : World}, Below V.heap.size V V' → Ψ V → Ψ V') (hk : ∀ w, Φ w → Ψ w) : Gs Ψ W := ⟨hk W h.at_, hd⟩
theorem Gs.hide {Φ : World → Prop} {W : World} {C : Prop} (G : Gs Φ W) (h : ∀ Ψ : World → Prop, Gs Ψ W → (∀ V, Ψ V → Φ V) → (∀ V, Gs Ψ V → Gs Φ V) → C) : C := h Φ G (fun _ h => h) (fun _ h => h)
theorem Gs.below (w : World) : Gs (fun W => Below w.heap.size w W) w := ⟨Below.refl _ _, fun hb h => below_step h hb⟩
theorem Gs.cell {a : Addr} {v : Value} {W : World} (h : W.cell? a = some v) : Gs (fun W => W.cell? a = some v) W := ⟨h, fun hb h => pw_cell_below hb h⟩
theorem Gs.row {α : Type} {d : Kd α} {A : Option Addr} {n : Nat} {xs : List α} {W : World} (h : d.C W A n xs) : Gs (fun W => d.C W A n xs) W := ⟨h, fun hb h => Kd.C_below h hb⟩
def box4 (g : Nat) (b0 b1 b2 b3 : Value) (w : World) : Prop := w.cell? ⟨g, 0, none⟩ = some b0 ∧ w.cell? ⟨g, 1, none⟩ = some b1 ∧ w.cell? ⟨g, 2, none⟩ = some b2 ∧ w.cell? ⟨g, 3, none⟩ = some b3
theorem Gs.ofBox4 {g : Nat} {t : TypeId} {b0 b1 b2 b3 : Value} {W : World} (h : W.heap[g]? = some (.cells #[b0, b1, b2, b3] t (0, 0))) : Gs (box4 g b0 b1 b2 b3) W :=
  ⟨⟨(blk_cell h 0).trans rfl, (blk_cell h 1).trans rfl, (blk_cell h 2).trans rfl, (blk_cell h 3).trans rfl⟩, fun hb h => ⟨pw_cell_below hb h.1, pw_cell_below hb h.2.1, pw_cell_below hb h.2.2.1, pw_cell_below hb h.2.2.2⟩⟩
theorem set4_blk {W : World} {g : Nat} {t : TypeId} {c0 c1 c2 c3 b0 b1 b2 b3 : Value} (h : W.heap[g]? = some (.cells #[c0, c1, c2, c3] t (0, 0))) :
    ((((W.setCell ⟨g, 0, none⟩ b0).setCell ⟨g, 1, none⟩ b1).setCell ⟨g, 2, none⟩ b2).setCell ⟨g, 3, none⟩ b3).heap[g]? = some (.cells #[b0, b1, b2, b3] t (0, 0)) :=
  blk_put (blk_put (blk_put (blk_put h 0 b0 rfl) 1 b1 rfl) 2 b2 rfl) 3 b3 rfl
theorem set4_far {W : World} {g k : Nat} {o : Obj} {b0 b1 b2 b3 : Value} (h : W.heap[k]? = some o) (hk : k ≠ g) :
    ((((W.setCell ⟨g, 0, none⟩ b0).setCell ⟨g, 1, none⟩ b1).setCell ⟨g, 2, none⟩ b2).setCell ⟨g, 3, none⟩ b3).heap[k]? = some o :=
  (Below.heap_setCell _ ⟨g, 3, none⟩ b3 k hk).trans ((Below.heap_setCell _ ⟨g, 2, none⟩ b2 k hk).trans ((Below.heap_setCell _ ⟨g, 1, none⟩ b1 k hk).trans ((Below.heap_setCell _ ⟨g, 0, none⟩ b0 k hk).trans h)))
theorem set4_below {V W : World} {g : Nat} {b0 b1 b2 b3 : Value} (h : Below V.heap.size V W) (hg : V.heap.size ≤ g) :
    Below V.heap.size V ((((W.setCell ⟨g, 0, none⟩ b0).setCell ⟨g, 1, none⟩ b1).setCell ⟨g, 2, none⟩ b2).setCell ⟨g, 3, none⟩ b3) :=
  below_set (below_set (below_set (below_set h hg) hg) hg) hg
/-- A variable of four cells, made and written. -/
theorem Gs.put4 {Φ : World → Prop} {V W : World} {g : Nat} {t : TypeId} {c0 c1 c2 c3 : Value} (b0 b1 b2 b3 : Value) (G : Gs Φ V) (hb : Aside0 (Below V.heap.size V W)) (hg : Aside0 (g = V.heap.size)) (hx : Aside0 (W.heap[g]? = some (.cells #[c0, c1, c2, c3] t (0, 0)))) :
    Gs (fun w => Φ w ∧ box4 g b0 b1 b2 b3 w) ((((W.setCell ⟨g, 0, none⟩ b0).setCell ⟨g, 1, none⟩ b1).setCell ⟨g, 2, none⟩ b2).setCell ⟨g, 3, none⟩ b3) :=
  (G.go (set4_below hb.out (Nat.le_of_eq hg.out.symm))).add (Gs.ofBox4 (set4_blk hx.out))
/-- Two variables of four cells, made, then written. -/
theorem Gs.put44 {Φ : World → Prop} {V W X : World} {g g' : Nat} {t t' : TypeId} {c0 c1 c2 c3 c0' c1' c2' c3' : Value} (b0 b1 b2 b3 b0' b1' b2' b3' : Value) (G : Gs Φ V) (hb : Aside0 (Below V.heap.size V W)) (hg : Aside0 (g = V.heap.size)) (hx : Aside0 (W.heap[g]? = some (.cells #[c0, c1, c2, c3] t (0, 0))))
    (hb' : Aside0 (Below W.heap.size W X)) (hg' : Aside0 (g' = W.heap.size)) (hx' : Aside0 (X.heap[g']? = some (.cells #[c0', c1', c2', c3'] t' (0, 0)))) :
    Gs (fun w => (Φ w ∧ box4 g b0 b1 b2 b3 w) ∧ box4 g' b0' b1' b2' b3' w) ((((((((X.setCell ⟨g, 0, none⟩ b0).setCell ⟨g, 1, none⟩ b1).setCell ⟨g, 2, none⟩ b2).setCell ⟨g, 3, none⟩ b3).setCell ⟨g', 0, none⟩ b0').setCell ⟨g', 1, none⟩ b1').setCell ⟨g', 2, none⟩ b2').setCell ⟨g', 3, none⟩ b3') := by
  have hlt := blk_lt hx.out
  have hne : g ≠ g' := by rw [hg'.out]; omega
  have e1 : V.heap.size ≤ g := Nat.le_of_eq hg.out.symm
  have e2 : V.heap.size ≤ g' := by rw [hg'.out]; exact hb.out.size
  exact ((G.go (set4_below (set4_below (below_step hb.out hb'.out) e1) e2)).add (Gs.ofBox4 (set4_far (set4_blk (blk_below hx.out hb'.out)) hne))).add (Gs.ofBox4 (set4_blk (set4_far hx'.out (Ne.symm hne))))
section
open Go.Proofs.YtgindocfjoalhaaW.PrintLast
variable {P : Program} {ops : Array Oper} {Q : Exit → Act → World → Prop} {Φ : World → Prop} {n m fuel : Nat} {a : Act} {w : World} {T : Bool × List (List Nat × List Nat)} {B : List Nat}
theorem bz_nil (n : Nat) : Array.replicate n false = bz n 0 := by
  unfold bz
  rw [List.map_eq_replicate_iff.2 (fun x _ => Nat.zero_testBit x)]
  simp
/-- A region that draws its order, at its head. -/
theorem reg {id : Nat} (G : Gs Φ w) (hm : P.follows .mixedOrders = true) (hn : ops.size = n) (hT : rtab .any ops = T) (hB : waitsOk T.2 B = true)
    (h : ∀ W, Below w.heap.size w W → Gs Φ W → Aside0 (rtab .any ops = T) → Aside0 (waitsOk T.2 B = true) → wpAnyLast P .any ops Q Φ [] n (bz n 0) a W) : (Code.region id ops true).wp P Q a w :=
  start_ (bz n 0) hm hn (bz_nil n) (G.go (below_drew (Below.refl _ _))).at_ (fun _ => h _ (below_drew (Below.refl _ _)) (G.go (below_drew (Below.refl _ _))) ⟨hT⟩ ⟨hB⟩)
/-- A call in such a region. -/
theorem rc {oi : Oper} (i : Nat) (t : Tmp) (m' : Nat) (HT : Aside0 (rtab .any ops = T)) (hi : ops[i]? = some oi) (hN : oi.dst = some t) (hc : (readyT T.2 (bz n m).toList == [i] && (bz n m).toList.set i true == (bz n m').toList) = true)
    {f : FuncId} {fn : Func} {ars : Array Operand} {ts : Array TypeId} (hf : P.funcs[f]? = some fn) (hname : (fn.name == "runtime.NumGoroutine") = false) (hb : fn.body.isSome = true) (hop : oi.op = .call { callee := .value (.func f), args := ars, argTypes := ts }) (args : Array Value)
    (hw : Region.wanted oi (yielded ops a.tmps) = true) (hargs : ars.map a.eval = args)
    (h : Calls P f args w fun e w' => ∃ v, e = .returned v ∧ Φ w' ∧ ∀ a', a.put (some t) v = a' → wpAnyLast P .any ops Q Φ [] fuel (bz n m') a' w') : wpAnyLast P .any ops Q Φ [] (fuel + 1) (bz n m) a w := by
  refine one_ (bz n m') hi hN (one_of HT.out hc) (by simp) (fun K hK => ?_)
  refine goes_ hf hname hb args hw hN hop hargs (h.mono fun e w' hh => ?_)
  obtain ⟨v, he, hp, hr⟩ := hh
  exact ⟨v, he, hK.out _ _ hp (fun _ => hr _ rfl)⟩
end
/-- Block numbers from lo to hi. -/
def Iv (lo hi k : Nat) : Prop := lo ≤ k ∧ k < hi
theorem Gs.top {T : Nat} {W : World} (h : T ≤ W.heap.size) : Gs (fun W => T ≤ W.heap.size) W := ⟨h, fun hb h => Nat.le_trans h hb.size⟩
theorem Gs.bel {w W : World} (h : Below w.heap.size w W) : Gs (fun W => Below w.heap.size w W) W := ⟨h, fun hb h => below_step h hb⟩
theorem Gs.ownS {α : Type} {d : Kd α} {e base : Nat} {ok : Nat → Prop} {v : Value} {xs : List α} {W : World} (h : Kd.S d e W base ok v xs) : Gs (fun W => Kd.S d e W base ok v xs) W := ⟨h, fun hb h => Kd.S_below h hb⟩
theorem Gs.ownR {α : Type} {d : Kd α} {e base : Nat} {ok : Nat → Prop} {v : Value} {xs : List α} {W : World} (h : d.R e W base ok v xs) : Gs (fun W => d.R e W base ok v xs) W := ⟨h, fun hb h => Kd.R_below h hb⟩
theorem newS {α : Type} {d : Kd α} {e T : Nat} {w0 W w1 : World} {ok : Nat → Prop} {v : Value} {xs : List α} (hT : T ≤ W.heap.size) (hb0 : Below w0.heap.size w0 W) (hb : Below W.heap.size W w1) (h : Kd.S d e w1 W.heap.size ok v xs) : ∃ lo hi, (T ≤ lo ∧ lo ≤ hi) ∧ hi ≤ w1.heap.size ∧ Kd.S d e w1 w0.heap.size (Iv lo hi) v xs :=
  ⟨W.heap.size, w1.heap.size, ⟨hT, hb.size⟩, Nat.le_refl _, Kd.S_lower (Kd.S_mono (Kd.S_bound h) (fun k hk => ⟨hk.2.1, hk.2.2.1⟩)) hb0.size⟩
theorem newR {α : Type} {d : Kd α} {e T : Nat} {w0 W w1 : World} {ok : Nat → Prop} {v : Value} {xs : List α} (hT : T ≤ W.heap.size) (hb0 : Below w0.heap.size w0 W) (hb : Below W.heap.size W w1) (h : d.R e w1 W.heap.size ok v xs) : ∃ lo hi, (T ≤ lo ∧ lo ≤ hi) ∧ hi ≤ w1.heap.size ∧ d.R e w1 w0.heap.size (Iv lo hi) v xs :=
  ⟨W.heap.size, w1.heap.size, ⟨hT, hb.size⟩, Nat.le_refl _, Kd.R_lower (Kd.R_mono (Kd.R_bound h) (fun k hk => ⟨hk.2.1, hk.2.2.1⟩)) hb0.size⟩
theorem Gs.blk {g : Nat} {t : TypeId} {cs : Array Value} {W : World} (h : W.heap[g]? = some (.cells cs t (0, 0))) : Gs (fun W => W.heap[g]? = some (.cells cs t (0, 0))) W := ⟨h, fun hb h => blk_below h hb⟩
def box2 (g : Nat) (b0 b1 : Value) (w : World) : Prop := w.cell? ⟨g, 0, none⟩ = some b0 ∧ w.cell? ⟨g, 1, none⟩ = some b1
theorem Gs.ofBox2 {g : Nat} {t : TypeId} {b0 b1 : Value} {W : World} (h : W.heap[g]? = some (.cells #[b0, b1] t (0, 0))) : Gs (box2 g b0 b1) W := ⟨⟨(blk_cell h 0).trans rfl, (blk_cell h 1).trans rfl⟩, fun hb h => ⟨pw_cell_below hb h.1, pw_cell_below hb h.2⟩⟩
theorem set2_blk {W : World} {g : Nat} {t : TypeId} {c0 c1 b0 b1 : Value} (hx : W.heap[g]? = some (.cells #[c0, c1] t (0, 0))) : ((W.setCell ⟨g, 0, none⟩ b0).setCell ⟨g, 1, none⟩ b1).heap[g]? = some (.cells #[b0, b1] t (0, 0)) := (blk_put (blk_put hx 0 b0 rfl) 1 b1 rfl)
theorem set2_far {W : World} {g k : Nat} {o : Obj} {b0 b1 : Value} (h : W.heap[k]? = some o) (hk : k ≠ g) : ((W.setCell ⟨g, 0, none⟩ b0).setCell ⟨g, 1, none⟩ b1).heap[k]? = some o := ((Below.heap_setCell _ ⟨g, 1, none⟩ b1 k hk).trans ((Below.heap_setCell _ ⟨g, 0, none⟩ b0 k hk).trans h))
theorem set2_below {V W : World} {g : Nat} {b0 b1 : Value} (h : Below V.heap.size V W) (hg : V.heap.size ≤ g) : Below V.heap.size V ((W.setCell ⟨g, 0, none⟩ b0).setCell ⟨g, 1, none⟩ b1) := (below_set (below_set h hg) hg)
theorem Gs.put2 {Φ : World → Prop} {V W : World} {g : Nat} {t : TypeId} {c0 c1 : Value} (b0 b1 : Value) (G : Gs Φ V) (hb : Aside0 (Below V.heap.size V W)) (hg : Aside0 (g = V.heap.size)) (hx : Aside0 (W.heap[g]? = some (.cells #[c0, c1] t (0, 0)))) :
    Gs (fun w => Φ w ∧ box2 g b0 b1 w) ((W.setCell ⟨g, 0, none⟩ b0).setCell ⟨g, 1, none⟩ b1) :=
  (G.go (set2_below hb.out (Nat.le_of_eq hg.out.symm))).add (Gs.ofBox2 (set2_blk hx.out))
theorem box2_kept {g : Nat} {b0 b1 : Value} {W W2 : World} {S : Nat → Prop} (h : box2 g b0 b1 W) (hk : Kept W W2 S) (hn : ¬ S g) : box2 g b0 b1 W2 := ⟨cell_kept h.1 hk hn, cell_kept h.2 hk hn⟩
theorem Gs.ofB2 {g : Nat} {b0 b1 : Value} {W : World} (h : box2 g b0 b1 W) : Gs (box2 g b0 b1) W := ⟨h, fun hb h => ⟨pw_cell_below hb h.1, pw_cell_below hb h.2⟩⟩
def box3 (g : Nat) (b0 b1 b2 : Value) (w : World) : Prop := w.cell? ⟨g, 0, none⟩ = some b0 ∧ w.cell? ⟨g, 1, none⟩ = some b1 ∧ w.cell? ⟨g, 2, none⟩ = some b2
theorem Gs.ofBox3 {g : Nat} {t : TypeId} {b0 b1 b2 : Value} {W : World} (h : W.heap[g]? = some (.cells #[b0, b1, b2] t (0, 0))) : Gs (box3 g b0 b1 b2) W := ⟨⟨(blk_cell h 0).trans rfl, (blk_cell h 1).trans rfl, (blk_cell h 2).trans rfl⟩, fun hb h => ⟨pw_cell_below hb h.1, pw_cell_below hb h.2.1, pw_cell_below hb h.2.2⟩⟩
theorem set3_blk {W : World} {g : Nat} {t : TypeId} {c0 c1 c2 b0 b1 b2 : Value} (hx : W.heap[g]? = some (.cells #[c0, c1, c2] t (0, 0))) : (((W.setCell ⟨g, 0, none⟩ b0).setCell ⟨g, 1, none⟩ b1).setCell ⟨g, 2, none⟩ b2).heap[g]? = some (.cells #[b0, b1, b2] t (0, 0)) := (blk_put (blk_put (blk_put hx 0 b0 rfl) 1 b1 rfl) 2 b2 rfl)
theorem set3_far {W : World} {g k : Nat} {o : Obj} {b0 b1 b2 : Value} (h : W.heap[k]? = some o) (hk : k ≠ g) : (((W.setCell ⟨g, 0, none⟩ b0).setCell ⟨g, 1, none⟩ b1).setCell ⟨g, 2, none⟩ b2).heap[k]? = some o := ((Below.heap_setCell _ ⟨g, 2, none⟩ b2 k hk).trans ((Below.heap_setCell _ ⟨g, 1, none⟩ b1 k hk).trans ((Below.heap_setCell _ ⟨g, 0, none⟩ b0 k hk).trans h)))
theorem set3_below {V W : World} {g : Nat} {b0 b1 b2 : Value} (h : Below V.heap.size V W) (hg : V.heap.size ≤ g) : Below V.heap.size V (((W.setCell ⟨g, 0, none⟩ b0).setCell ⟨g, 1, none⟩ b1).setCell ⟨g, 2, none⟩ b2) := (below_set (below_set (below_set h hg) hg) hg)
theorem Gs.put3 {Φ : World → Prop} {V W : World} {g : Nat} {t : TypeId} {c0 c1 c2 : Value} (b0 b1 b2 : Value) (G : Gs Φ V) (hb : Aside0 (Below V.heap.size V W)) (hg : Aside0 (g = V.heap.size)) (hx : Aside0 (W.heap[g]? = some (.cells #[c0, c1, c2] t (0, 0)))) :
    Gs (fun w => Φ w ∧ box3 g b0 b1 b2 w) (((W.setCell ⟨g, 0, none⟩ b0).setCell ⟨g, 1, none⟩ b1).setCell ⟨g, 2, none⟩ b2) :=
  (G.go (set3_below hb.out (Nat.le_of_eq hg.out.symm))).add (Gs.ofBox3 (set3_blk hx.out))
theorem box3_kept {g : Nat} {b0 b1 b2 : Value} {W W2 : World} {S : Nat → Prop} (h : box3 g b0 b1 b2 W) (hk : Kept W W2 S) (hn : ¬ S g) : box3 g b0 b1 b2 W2 := ⟨cell_kept h.1 hk hn, cell_kept h.2.1 hk hn, cell_kept h.2.2 hk hn⟩
theorem Gs.ofB3 {g : Nat} {b0 b1 b2 : Value} {W : World} (h : box3 g b0 b1 b2 W) : Gs (box3 g b0 b1 b2) W := ⟨h, fun hb h => ⟨pw_cell_below hb h.1, pw_cell_below hb h.2.1, pw_cell_below hb h.2.2⟩⟩
theorem box4_kept {g : Nat} {b0 b1 b2 b3 : Value} {W W2 : World} {S : Nat → Prop} (h : box4 g b0 b1 b2 b3 W) (hk : Kept W W2 S) (hn : ¬ S g) : box4 g b0 b1 b2 b3 W2 := ⟨cell_kept h.1 hk hn, cell_kept h.2.1 hk hn, cell_kept h.2.2.1 hk hn, cell_kept h.2.2.2 hk hn⟩
theorem Gs.ofB4 {g : Nat} {b0 b1 b2 b3 : Value} {W : World} (h : box4 g b0 b1 b2 b3 W) : Gs (box4 g b0 b1 b2 b3) W := ⟨h, fun hb h => ⟨pw_cell_below hb h.1, pw_cell_below hb h.2.1, pw_cell_below hb h.2.2.1, pw_cell_below hb h.2.2.2⟩⟩
section
open Go.Proofs.YtgindocfjoalhaaW.PrintLast
variable {P : Program} {ops : Array Oper} {Q : Exit → Act → World → Prop} {Φ : World → Prop} {n m fuel : Nat} {a : Act} {w : World} {T : Bool × List (List Nat × List Nat)} {B : List Nat} {ds : List Nat}
/-- A region that draws its order, at its head; ds: what is done last. -/
theorem regD {id : Nat} (ds : List Nat) (G : Gs Φ w) (hm : P.follows .mixedOrders = true) (hn : ops.size = n) (hT : rtab .any ops = T) (hB : waitsOk T.2 B = true)
    (h : ∀ W, Below w.heap.size w W → Gs Φ W → Aside0 (rtab .any ops = T) → Aside0 (waitsOk T.2 B = true) → wpAnyLast P .any ops Q Φ ds n (bz n 0) a W) : (Code.region id ops true).wp P Q a w :=
  start_ (bz n 0) hm hn (bz_nil n) (G.go (below_drew (Below.refl _ _))).at_ (fun _ => h _ (below_drew (Below.refl _ _)) (G.go (below_drew (Below.refl _ _))) ⟨hT⟩ ⟨hB⟩)
/-- A call in such a region. -/
theorem rcD {oi : Oper} (i : Nat) (t : Tmp) (m' : Nat) (HT : Aside0 (rtab .any ops = T)) (hi : ops[i]? = some oi) (hN : oi.dst = some t) (hd : i ∉ ds) (hc : (readyT T.2 (bz n m).toList == [i] && (bz n m).toList.set i true == (bz n m').toList) = true)
    {f : FuncId} {fn : Func} {ars : Array Operand} {ts : Array TypeId} (hf : P.funcs[f]? = some fn) (hname : (fn.name == "runtime.NumGoroutine") = false) (hb : fn.body.isSome = true) (hop : oi.op = .call { callee := .value (.func f), args := ars, argTypes := ts }) (args : Array Value)
    (hw : Region.wanted oi (yielded ops a.tmps) = true) (hargs : ars.map a.eval = args)
    (h : Calls P f args w fun e w' => ∃ v, e = .returned v ∧ Φ w' ∧ ∀ a', a.put (some t) v = a' → wpAnyLast P .any ops Q Φ ds fuel (bz n m') a' w') : wpAnyLast P .any ops Q Φ ds (fuel + 1) (bz n m) a w := by
  refine one_ (bz n m') hi hN (one_of HT.out hc) hd (fun K hK => ?_)
  refine goes_ hf hname hb args hw hN hop hargs (h.mono fun e w' hh => ?_)
  obtain ⟨v, he, hp, hr⟩ := hh
  exact ⟨v, he, hK.out _ _ hp (fun _ => hr _ rfl)⟩
/-- A block made in a region that draws its order. -/
theorem raD {oi : Oper} (i : Nat) (t : Tmp) (m' : Nat) (v : Nat → Value) (cs : Array Value) (ty : TypeId) (HT : Aside0 (rtab .any ops = T)) (hi : ops[i]? = some oi) (hN : oi.dst = some t) (hd : i ∉ ds) (hc : (readyT T.2 (bz n m).toList == [i] && (bz n m).toList.set i true == (bz n m').toList) = true) (G : Gs Φ w)
    (hw : Region.wanted oi (yielded ops a.tmps) = true) (hrun : (execOp a.eval oi).run P w = .ok (.value (v w.heap.size)) (w.alloc (.cells cs ty (0, 0))))
    (h : ∀ g w2, g = w.heap.size → w2.heap[g]? = some (.cells cs ty (0, 0)) → Below w.heap.size w w2 → Gs Φ w2 → ∀ a', a.put (some t) (v g) = a' → wpAnyLast P .any ops Q Φ ds fuel (bz n m') a' w2) : wpAnyLast P .any ops Q Φ ds (fuel + 1) (bz n m) a w := by
  refine one_ (bz n m') hi hN (one_of HT.out hc) hd (fun K hK => ?_)
  refine value_ hw hN hrun ?_
  exact hK.out _ _ (G.go (below_alloc (Below.refl _ _) _)).at_ (fun _ => h _ _ rfl (blk_new w _) (below_alloc (Below.refl _ _) _) (G.go (below_alloc (Below.refl _ _) _)) _ rfl)
/-- A call and a variable's making, both of which may come up. -/
theorem tcD {oi oj : Oper} (i : Nat) (t : Tmp) (mi : Nat) (j : Nat) (tj : Tmp) (mj : Nat) (v : Nat → Value) (cs : Array Value) (ty : TypeId) (HT : Aside0 (rtab .any ops = T)) (hi : ops[i]? = some oi) (hj : ops[j]? = some oj) (hN : oi.dst = some t) (hNj : oj.dst = some tj) (hd : i ∉ ds) (hdj : j ∉ ds)
    (hc : (readyT T.2 (bz n m).toList == [i, j] && (bz n m).toList.set i true == (bz n mi).toList && (bz n m).toList.set j true == (bz n mj).toList) = true)
    {f : FuncId} {fn : Func} {ars : Array Operand} {ts : Array TypeId} (hf : P.funcs[f]? = some fn) (hname : (fn.name == "runtime.NumGoroutine") = false) (hb : fn.body.isSome = true) (hop : oi.op = .call { callee := .value (.func f), args := ars, argTypes := ts }) (args : Array Value)
    (hw : Region.wanted oi (yielded ops a.tmps) = true) (hargs : ars.map a.eval = args) (G : Gs Φ w) (hwj : Region.wanted oj (yielded ops a.tmps) = true) (hrun : (execOp a.eval oj).run P w = .ok (.value (v w.heap.size)) (w.alloc (.cells cs ty (0, 0))))
    (h1 : Calls P f args w fun e w' => ∃ v, e = .returned v ∧ Φ w' ∧ ∀ a', a.put (some t) v = a' → wpAnyLast P .any ops Q Φ ds fuel (bz n mi) a' w')
    (h2 : ∀ g w2, g = w.heap.size → w2.heap[g]? = some (.cells cs ty (0, 0)) → Below w.heap.size w w2 → ∀ a', a.put (some tj) (v g) = a' → wpAnyLast P .any ops Q Φ ds fuel (bz n mj) a' w2) : wpAnyLast P .any ops Q Φ ds (fuel + 1) (bz n m) a w := by
  refine two_ (bz n mi) (bz n mj) hi hj hN hNj (two_of HT.out hc) hd hdj (fun K hK => ?_) (fun K hK => ?_)
  · refine goes_ hf hname hb args hw hN hop hargs (h1.mono fun e w' hh => ?_)
    obtain ⟨v, he, hp, hr⟩ := hh
    exact ⟨v, he, hK.out _ _ hp (fun _ => hr _ rfl)⟩
  · refine value_ hwj hNj hrun ?_
    exact hK.out _ _ (G.go (below_alloc (Below.refl _ _) _)).at_ (fun _ => h2 _ _ rfl (blk_new w _) (below_alloc (Below.refl _ _) _) _ rfl)
/-- A store that is done last. -/
theorem lsD {oi : Oper} (i : Nat) (m' : Nat) (w1 : World) (HT : Aside0 (rtab .any ops = T)) (hi : ops[i]? = some oi) (hN : oi.dst = none) (hd : i ∈ ds) (hc : (readyT T.2 (bz n m).toList == [i] && (bz n m).toList.set i true == (bz n m').toList) = true)
    (hw : Region.wanted oi (yielded ops a.tmps) = true) (hrun : (execOp a.eval oi).run P w = .ok .skip w1) (h : wpAnyLast P .any ops Q Φ ds fuel (bz n m') a w1) : wpAnyLast P .any ops Q Φ ds (fuel + 1) (bz n m) a w := by
  refine last_ (bz n m') hi hN (one_of HT.out hc) hd (fun K hK => ?_)
  exact skip_ hw hN hrun (hK.out _ _ h)
end
/-! ### laws_markAlarm: function 40 -/
def laws_markAlarm.f (k : Nat) (l0_0 : List (S89)) (a0_1 : Int) (a0_2 : Int) (a0_3 : ByteArray) (a1 : Int) : Option (Int × (List (S89))) := (laws_markLabelS.f k l0_0 a1).bind fun bt320 => (some (bt320.1, bt320.2))
theorem laws_markAlarm.mono : ∀ a0 a1 a2 a3 a4 k, LeO (laws_markAlarm.f k a0 a1 a2 a3 a4) (laws_markAlarm.f (k + 1) a0 a1 a2 a3 a4) := by
  intro a0 a1 a2 a3 a4 k
  unfold laws_markAlarm.f
  repeat' first
      | (with_reducible exact laws_markLabelS.mono _ _ _)
      | (with_reducible exact LeO.refl _)
      | (with_reducible exact LeO.none _)
      | (with_reducible refine LeO.ite ?_ ?_)
      | (with_reducible refine LeO.bind ?_ (fun _ => ?_))
      | exact laws_markLabelS.mono _ _ _
      | exact LeO.none _
      | refine LeO.ite ?_ ?_
      | refine LeO.bind ?_ (fun _ => ?_)
set_option maxHeartbeats 8000000 in
set_option maxRecDepth 100000 in
theorem laws_markAlarm.calls (k : Nat) (P0_0_ : Nat → Prop) (u9000_ : Value) (l0_0 : List (S89)) (a0_1 : Int) (a0_2 : Int) (a0_3 : ByteArray) (a1 : Int) (r1 : Int) (r2 : List (S89)) (w0 w : World) (hB : Below w0.heap.size w0 w) (ho0_0 : Kd.R k89 89 w w0.heap.size P0_0_ u9000_ l0_0) (h : laws_markAlarm.f k l0_0 a0_1 a0_2 a0_3 a1 = some (r1, r2)) :
    Calls Try.prog 40 #[.agg #[u9000_, .int .i64 a0_1, .int .i64 a0_2, .string a0_3], .int .i64 a1] w fun e w' => e = .returned (.int .i64 r1) ∧ Kd.R k89 89 w' w0.heap.size (fun k_ => (P0_0_ k_ ∨ w.heap.size ≤ k_)) u9000_ r2 ∧ Below w0.heap.size w0 w' ∧ Kept w w' (fun k_ => P0_0_ k_) := by
  have hu26 := Try.underlying26
  have HO0_0 := aM (show Kd.R k89 89 w w0.heap.size (fun k_ => (P0_0_ k_ ∨ w.heap.size ≤ k_)) u9000_ l0_0 from Kd.R_mono ho0_0 (fun k_ hk => (.inl hk)))
  have HK := aM (Kept.refl w (fun k_ => P0_0_ k_))
  have HW0 := aM hB.size
  have HB := aM hB
  clear hB
  have H : ((laws_markLabelS.f k l0_0 a1).bind fun bt320 => (some (bt320.1, bt320.2))) = some (r1, r2) := h
  clear h; replace H := Option.bind_eq_some_iff.mp H
  obtain ⟨⟨t320, t321⟩, A30, H⟩ := H
  try dsimp only at H
  have A3 := aM A30
  clear A30
  simp only [Option.some.injEq, Prod.mk.injEq] at H
  obtain ⟨rfl, rfl⟩ := H
  obtain ⟨Ao4, co4, eo4⟩ := Kd.R_slice HO0_0.out
  subst eo4
  go_enter Try.func40, Try.ntmps40
  go_wp2_with (first | ((with_reducible refine gate_dst (N := 2) rfl ?_); refine box_event ?hg (N := 2) ?hd (cs := #[.slice Ao4 l0_0.length co4, .int .i64 a0_1, .int .i64 a0_2, .string a0_3]) (t := 26) ?hr ?_; (case hd => rfl); (case hg => rfl); (case hr => first | (go_simp; done) | (go_simp; rfl)); intro gb319 hg w5 hbox hb; have n0_ := rb HO0_0 hb; have n1_ := aM (Kept.below (S := (fun k_ => P0_0_ k_)) (by repeat (first | (with_reducible first | exact HK.out | apply Kept.alloc | apply Kept.drewN | apply Kept.drew) | exact HK.out)) hb); have n2_ := aM (below_step (by repeat (first | (with_reducible first | exact HB.out | apply aW1 | apply aW2 | apply aW3) | exact HB.out)) hb); have n3_ := aM (hbox); have n4_ := aM ((by rw [hg]; exact (by first | exact HK.out.1 | exact (show Kept w _ (fun k_ => P0_0_ k_) from by repeat (first | (with_reducible first | exact HK.out | apply Kept.alloc | apply Kept.drewN | apply Kept.drew) | exact HK.out)).1) : w.heap.size ≤ gb319)); have n5_ := aM ((by rw [hg]; exact (below_size (by repeat (first | (with_reducible first | exact HB.out | apply aW1 | apply aW2 | apply aW3) | exact HB.out))) : w0.heap.size ≤ gb319)); clear HO0_0 HK HB; have HO0_0 := n0_; have HK := n1_; have HB := n2_; have BK319 := n3_; have GW319 := n4_; have GE319 := n5_; clear n0_ n1_ n2_ n3_ n4_ n5_ hb hbox hg; have hcz6_0 := cz4_0 BK319; have hcz6_1 := cz4_1 BK319; have hcz6_2 := cz4_2 BK319; have hcz6_3 := cz4_3 BK319; have hfz6_0 := blk_frozen BK319.out 0; have hfz6_1 := blk_frozen BK319.out 1; have hfz6_2 := blk_frozen BK319.out 2; have hfz6_3 := blk_frozen BK319.out 3) | ((with_reducible refine gate_callee (f := 65) rfl ?_); refine goesL_ (some 8) rfl rfl Try.func65 (by kernel_rfl) rfl #[.slice Ao4 l0_0.length co4, .int .i64 a1] rfl (by (try simp only [List.map_toArray, List.map_cons, List.map_nil]); first | done | rfl | (simp only [List.length_drop, List.length_take]; rfl)) ?_; (with_reducible refine (laws_markLabelS.calls k (fun k_ => some k_ = (.slice Ao4 l0_0.length co4 : Value).ownBlock) (.slice Ao4 l0_0.length co4) l0_0 a1 t320 t321 w0 _ ?side1 ?side2 A3.out).mono ?_); (case side1 => repeat (first | (with_reducible first | exact HB.out | apply aW1 | apply aW2 | apply aW3 | refine below_set ?_ GE319.out) | exact HB.out)); (case side2 => exact Kd.R_tight rfl HO0_0.out); rintro e w7 ⟨rfl, hy0, hb, hkp⟩; refine ⟨_, rfl, ?_⟩; have n0_ := aM (Kd.R_reok rfl hy0 (fun k_ e_ => HO0_0.out.1 k_ e_)); have n1_ := aM (blk_kept (aB BK319) hkp (fun hs_ => (fun e_ => (Kd.R_ne HO0_0.out BK319.out (by decide)) e_) hs_)); have n2_ := aM (Kept.then_ (S := (fun k_ => P0_0_ k_)) (by repeat (first | (with_reducible first | exact HK.out | apply Kept.alloc | apply Kept.drewN | apply Kept.drew | refine Kept.setCell ?_ (.inr GW319.out) _) | exact HK.out)) hkp (fun k_ hs_ => (fun e_ => (HO0_0.out.1 k_ e_.symm)) hs_)); have n3_ := aM (hb); clear HO0_0 BK319 HK HB; have HO0_0 := n0_; have BK319 := n1_; have HK := n2_; have HB := n3_; clear n0_ n1_ n2_ n3_; (try clear hb); (try clear hkp); (try clear hy0)))
  go_ret
  exact ⟨by first | rfl | (simp [errW_none, errW_some] <;> rfl) | (simp [*, errW_none, errW_some] <;> rfl), by (with_reducible repeat (first | apply aR1 | apply aR2 | apply aR3)); exact HO0_0.out, by repeat (first | (with_reducible first | exact HB.out | apply aW1 | apply aW2 | apply aW3 | refine below_set ?_ GE319.out) | exact HB.out), by repeat (first | (with_reducible first | exact HK.out | apply Kept.alloc | apply Kept.drewN | apply Kept.drew | refine Kept.setCell ?_ (.inr GW319.out) _) | exact HK.out)⟩

-- NOT PRINTED: function 6 (laws_FnExactPutChain)

/-! ### laws_markAlarmS: function 26 (by hand) -/
def laws_markAlarmS.l0 : Nat → List (S26) → Int → Int → Option (Int × List (S26))
  | 0, _, _, _ => none
  | k + 1, x0, x1, x5 => if x5 < (x0.length : Int) then (if 0 ≤ x5 then ((laws_markLabelS.f k (rd_T26 x0 x5).f0 x1).bind fun b => ((laws_markText.f k (wrap64 ((wrap64 (b.1 + 1)) + 1))).bind fun t => (laws_markAlarmS.l0 k (x0.set (x5 : Int).toNat (⟨b.2, b.1, (wrap64 (b.1 + 1)), t⟩ : S26)) (wrap64 ((wrap64 ((wrap64 (b.1 + 1)) + 1)) + 1)) (wrap64 (x5 + 1))))) else (none)) else (some (x1, x0))
def laws_markAlarmS.f (k : Nat) (l0 : List (S26)) (a1 : Int) : Option (Int × List (S26)) := laws_markAlarmS.l0 k l0 a1 0
set_option maxHeartbeats 8000000 in
set_option maxRecDepth 100000 in
theorem laws_markAlarmS.calls (k : Nat) (P : Nat → Prop) (A0 : Option Addr) (c0 : Nat) (l0 : List (S26)) (a1 : Int) (r1 : Int) (r2 : List (S26)) (w0 w : World) (hB : Below w0.heap.size w0 w) (ho0 : Kd.S k26 26 w w0.heap.size P (.slice A0 l0.length c0) l0) (h : laws_markAlarmS.f k l0 a1 = some (r1, r2)) :
    Calls Try.prog 26 #[.slice A0 l0.length c0, .int .i64 a1] w fun e w' => e = .returned (.int .i64 r1) ∧ Kd.S k26 26 w' w0.heap.size P (.slice A0 l0.length c0) r2 ∧ Below w0.heap.size w0 w' ∧ Kept w w' P := by
  have hu := Try.underlying26
  have HN := Aside0.mk (Eq.refl l0.length)
  obtain ⟨n0, hn0⟩ : ∃ n, n = l0.length := ⟨_, rfl⟩
  have HN0 := Aside0.mk hn0
  rw [← hn0] at ho0 ⊢
  clear hn0
  have HO0 := Aside0.mk ho0
  have HK := Aside0.mk (Kept.refl w P)
  have HB := Aside0.mk hB
  clear hB ho0
  have H' := Aside0.mk (show laws_markAlarmS.l0 k l0 a1 0 = some (r1, r2) from h)
  clear h
  go_enter Try.func26, Try.ntmps26
  go_wp2
  go_loopg [1, 5] k (fun kq v1 v5 w' => ∃ (x0 : List (S26)) (x1 : Int) (x5 : Int), v1 = .int .i64 x1 ∧ v5 = .int .i64 x5 ∧ Aside0 (laws_markAlarmS.l0 kq x0 x1 x5 = some (r1, r2)) ∧ Aside0 (kq ≤ k) ∧ Aside0 (Kd.S k26 26 w' w0.heap.size P (.slice A0 n0 c0) x0) ∧ Aside0 (Kept w w' P) ∧ Aside0 (Below w0.heap.size w0 w'))
  case atStart => exact ⟨l0, a1, 0, rfl, rfl, H', ⟨Nat.le_refl _⟩, HO0, HK, HB⟩
  case round =>
    clear H' HO0 HK HB
    obtain ⟨x0, x1, x5, rfl, rfl, HA, HK1, HO, HK, HB⟩ := hrel
    cases gk with
    | zero => exact absurd HA.out (by simp [laws_markAlarmS.l0])
    | succ k1 =>
      have H := HA.out
      clear HA
      simp only [laws_markAlarmS.l0] at H
      have hlen := (Kd.S_reads' HO.out).1
      by_cases c3 : x5 < (x0.length : Int)
      · rw [if_pos c3] at H
        by_cases c5 : 0 ≤ x5
        · rw [if_pos c5] at H
          obtain ⟨b, HL, H⟩ := Option.bind_eq_some_iff.mp H
          obtain ⟨t, HT, H⟩ := Option.bind_eq_some_iff.mp H
          obtain ⟨b1, b2⟩ := b
          dsimp only at HL HT H
          have AL := Aside0.mk HL
          have AT := Aside0.mk HT
          have H' := Aside0.mk H
          clear HL HT H
          obtain ⟨g, cap, ev, hbg, hgl, _⟩ := Kd.S_form HO.out (by omega)
          injection ev with eA en ec
          subst eA; subst ec
          have hi1 : x5 < (n0 : Int) := by omega
          obtain ⟨oki, c, hcl, hM, hcc, hfr, hoki, hH⟩ := Kd.S_elem HO.out z26 x5 c5 hi1
          obtain ⟨v, rfl, hR⟩ := k26_openM hM
          have hz0 : wr.cell? ⟨g, (x5 : Int).toNat * 4, none⟩ = some v := hcc 0 _ rfl
          obtain ⟨Av, cv, ev⟩ := Kd.R_slice hR
          subst ev
          have HH := Aside0.mk hH
          have HR := Aside0.mk (Kd.R_tight rfl hR)
          have HRok := Aside0.mk hR.1
          have HOK := Aside0.mk hoki
          have HGP := Aside0.mk (show P g from (Kd.S_R HO.out).1 g (by simp [Value.ownBlock]))
          have HGB := Aside0.mk hbg
          have HN1 := Aside0.mk hlen
          have HI := Aside0.mk hi1
          have HC5 := Aside0.mk c5
          have HCC := Aside0.mk hcc
          have HFR := Aside0.mk hfr
          have p5 : (0 ≤ x5) = True := eq_true c5
          have q5 : (x5 < (n0 : Int)) = True := eq_true hi1
          clear hH hR hM hoki hgl hbg hlen hcc hfr hcl HO en
          have c5b : decide (0 ≤ x5) = true := decide_eq_true c5
          have c3b : decide (x5 < (n0 : Int)) = true := decide_eq_true hi1
          clear c3 c5 hi1
          go_wp2_with (first | ((with_reducible refine gate_callee (f := 65) rfl ?_); refine goesL_ (some 18) rfl rfl Try.func65 (by kernel_rfl) rfl #[.slice Av (rd_T26 x0 x5).f0.length cv, .int .i64 x1] rfl (by (try simp only [List.map_toArray, List.map_cons, List.map_nil]); first | done | rfl) ?_; refine (laws_markLabelS.calls k1 (fun k_ => some k_ = (Value.slice Av (rd_T26 x0 x5).f0.length cv).ownBlock) (.slice Av (rd_T26 x0 x5).f0.length cv) (rd_T26 x0 x5).f0 x1 b1 b2 w0 _ HB.out HR.out AL.out).mono ?_; rintro e w1 ⟨rfl, hy, hb, hk⟩; refine ⟨_, rfl, ?_⟩; have HB1 := Aside0.mk hb; have HS1 := Aside0.mk (fun k_ (h_ : some k_ = (Value.slice Av (rd_T26 x0 x5).f0.length cv).ownBlock) => HRok.out k_ h_.symm); have HK2 := Aside0.mk (Kept.then_ HK.out hk (fun k_ hk_ => Or.inl (HOK.out k_ (HS1.out k_ hk_)).1)); have HH1 := Aside0.mk (Kd.H_kept HH.out hk (fun k_ _ hn hs => hn (HS1.out k_ hs))); have HR1 := Aside0.mk (Kd.R_reok (ok := oki) rfl hy (fun k_ h_ => HS1.out k_ h_.symm)); have HG1 := Aside0.mk (fun hs => (HOK.out g (HS1.out g hs)).2 rfl); have HCC1 := Aside0.mk (fun j u (hj : _) => cell_kept (HCC.out j u hj) hk HG1.out); have e0 : w1.cell? ⟨g, (x5 : Int).toNat * 4, none⟩ = some (.slice Av (rd_T26 x0 x5).f0.length cv) := cell_kept (HCC.out 0 _ rfl) hk HG1.out; have e1 : w1.cell? ⟨g, (x5 : Int).toNat * 4 + 1, none⟩ = some (.int .i64 (rd_T26 x0 x5).f1) := cell_kept (HCC.out 1 _ rfl) hk HG1.out; have e2 : w1.cell? ⟨g, (x5 : Int).toNat * 4 + 2, none⟩ = some (.int .i64 (rd_T26 x0 x5).f2) := cell_kept (HCC.out 2 _ rfl) hk HG1.out; have e3 : w1.cell? ⟨g, (x5 : Int).toNat * 4 + 3, none⟩ = some (.string (rd_T26 x0 x5).f3) := cell_kept (HCC.out 3 _ rfl) hk HG1.out; have hfr1 : ∀ j, w1.frozen? ⟨g, (x5 : Int).toNat * 4 + j, none⟩ = false := (fun j => by have hb_ := hk.2 g (World.block_lt_of_cell? _ _ (HCC.out 0 _ rfl)) HG1.out; have hf_ := HFR.out j; simp only [World.frozen?, hb_] at hf_ ⊢; exact hf_); have f1 := hfr1 1; have f2 := hfr1 2; clear hfr1 hy hb hk hz0))
          refine (laws_markText.calls k1 (wrap64 (wrap64 (b1 + 1) + 1)) t _ AT.out).mono ?_
          rintro e w2 ⟨rfl, hb⟩
          have h1 : Kd.H k26 26 (w1.setCell ⟨g, (x5 : Int).toNat * 4 + 1, none⟩ (.int .i64 b1)) w0.heap.size P (.slice (some ⟨g, 0, none⟩) n0 c0) x0 x5 oki [.slice Av (rd_T26 x0 x5).f0.length cv, .int .i64 b1, .int .i64 (rd_T26 x0 x5).f2, .string (rd_T26 x0 x5).f3] := (Kd.H_seg HH1.out HC5.out HI.out (seg := [.int .i64 b1]) (j := 1) (show 1 + 1 ≤ 4 by decide) (fun q hq => by rw [List.mem_singleton.1 hq]; rfl)).1
          have h2 : Kd.H k26 26 ((w1.setCell ⟨g, (x5 : Int).toNat * 4 + 1, none⟩ (.int .i64 b1)).setCell ⟨g, (x5 : Int).toNat * 4 + 2, none⟩ (.int .i64 (wrap64 (b1 + 1)))) w0.heap.size P (.slice (some ⟨g, 0, none⟩) n0 c0) x0 x5 oki [.slice Av (rd_T26 x0 x5).f0.length cv, .int .i64 b1, .int .i64 (wrap64 (b1 + 1)), .string (rd_T26 x0 x5).f3] := (Kd.H_seg h1 HC5.out HI.out (seg := [.int .i64 (wrap64 (b1 + 1))]) (j := 2) (show 2 + 1 ≤ 4 by decide) (fun q hq => by rw [List.mem_singleton.1 hq]; rfl)).1
          have HH2 := Aside0.mk (Kd.H_below h2 hb)
          have HR2 := Aside0.mk (Kd.R_below (Kd.R_far (p := ⟨g, (x5 : Int).toNat * 4 + 2, none⟩) (Kd.R_far (p := ⟨g, (x5 : Int).toNat * 4 + 1, none⟩) HR1.out (fun k_ hk_ => (HOK.out k_ hk_).2) (.int .i64 b1)) (fun k_ hk_ => (HOK.out k_ hk_).2) (.int .i64 (wrap64 (b1 + 1)))) hb)
          have HB2 := Aside0.mk (below_step (below_set (below_set HB1.out HGB.out) HGB.out) hb)
          have HK3 := Aside0.mk (Kept.below (Kept.setCell (Kept.setCell HK2.out (p := ⟨g, (x5 : Int).toNat * 4 + 1, none⟩) (Or.inl HGP.out) _) (p := ⟨g, (x5 : Int).toNat * 4 + 2, none⟩) (Or.inl HGP.out) _) hb)
          obtain ⟨_, _, _, _, _, hcc2, _⟩ := Kd.H_raw HH2.out HC5.out HI.out
          have e3' : w2.cell? ⟨g, (x5 : Int).toNat * 4 + 3, none⟩ = some (.string (rd_T26 x0 x5).f3) := hcc2 3 _ rfl
          have f3' : w2.frozen? ⟨g, (x5 : Int).toNat * 4 + 3, none⟩ = false := (by obtain ⟨_, f_, hRg⟩ := HH2.out; obtain ⟨g_, cap_, ev_, _, _, cells_, hbk_⟩ := Kd.R_form hRg (by rw [List.length_zipIdx]; have := HN1.out; have := HI.out; have := HC5.out; omega); injection ev_ with ea_; injection ea_ with ea_; injection ea_ with ea_; subst ea_; exact blk_frozen hbk_ _)
          clear hcc2 h1 h2 hb
          go_wp2
          go_roundg k1
          case measure => have := HK1.out; omega
          case rel =>
            have h3 : Kd.H k26 26 (w2.setCell ⟨g, (x5 : Int).toNat * 4 + 3, none⟩ (.string t)) w0.heap.size P (.slice (some ⟨g, 0, none⟩) n0 c0) x0 x5 oki [.slice Av (rd_T26 x0 x5).f0.length cv, .int .i64 b1, .int .i64 (wrap64 (b1 + 1)), .string t] := (Kd.H_seg HH2.out HC5.out HI.out (seg := [.string t]) (j := 3) (show 3 + 1 ≤ 4 by decide) (fun q hq => by rw [List.mem_singleton.1 hq]; rfl)).1
            have h4 := Kd.H_back h3 (x' := (⟨b2, b1, wrap64 (b1 + 1), t⟩ : S26)) (k26_mkM _ _ oki (⟨b2, b1, wrap64 (b1 + 1), t⟩ : S26) (v0 := .slice Av (rd_T26 x0 x5).f0.length cv) (Kd.R_far (p := ⟨g, (x5 : Int).toNat * 4 + 3, none⟩) HR2.out (fun k_ hk_ => (HOK.out k_ hk_).2) (.string t))) (fun _ hk_ => hk_)
            exact ⟨_, _, _, (by first | rfl | (simp; done) | (simp [*]; done)), (by first | rfl | (simp; done) | (simp [*]; done)), H', ⟨by have := HK1.out; omega⟩, ⟨h4⟩, ⟨Kept.setCell HK3.out (p := ⟨g, (x5 : Int).toNat * 4 + 3, none⟩) (Or.inl HGP.out) _⟩, ⟨below_set HB2.out HGB.out⟩⟩
        · rw [if_neg c5] at H
          exact absurd H (by simp)
      · rw [if_neg c3] at H
        simp only [Option.some.injEq, Prod.mk.injEq] at H
        obtain ⟨rfl, rfl⟩ := H
        have c3b : decide (x5 < (n0 : Int)) = false := decide_eq_false (by omega)
        clear c3 hlen
        go_wp2
        go_ret
        exact ⟨rfl, HO.out, HB.out, HK.out⟩
/-! ### laws_markChain: function 25 (by hand) -/
def laws_markChain.f (k : Nat) (a0_0 : Int) (l0_1 : List (S26)) (a1 : Int) : Option (Int × List (S26)) := laws_markAlarmS.f k l0_1 a1
set_option maxHeartbeats 8000000 in
set_option maxRecDepth 100000 in
theorem laws_markChain.calls (k : Nat) (P : Nat → Prop) (a0_0 : Int) (A0_1 : Option Addr) (c0_1 : Nat) (l0_1 : List (S26)) (a1 : Int) (r1 : Int) (r2 : List (S26)) (w0 w : World) (hB : Below w0.heap.size w0 w) (ho0 : Kd.S k26 26 w w0.heap.size P (.slice A0_1 l0_1.length c0_1) l0_1) (h : laws_markChain.f k a0_0 l0_1 a1 = some (r1, r2)) :
    Calls Try.prog 25 #[.agg #[.int .i64 a0_0, .slice A0_1 l0_1.length c0_1], .int .i64 a1] w fun e w' => e = .returned (.int .i64 r1) ∧ Kd.S k26 26 w' w0.heap.size P (.slice A0_1 l0_1.length c0_1) r2 ∧ Below w0.heap.size w0 w' ∧ Kept w w' P := by
  have hu := Try.underlying39
  have HO0 := aM ho0
  have HB := aM hB
  have HF := aM h
  clear ho0 hB h
  go_enter Try.func25, Try.ntmps25
  go_upto_region 1 with (first | ((with_reducible refine gate_dst (N := 2) rfl ?_); refine box_event ?hg (N := 2) ?hd (cs := #[.int .i64 a0_0, .slice A0_1 l0_1.length c0_1]) (t := 39) ?hr ?_; (case hd => rfl); (case hg => rfl); (case hr => first | (go_simp; done) | (go_simp; rfl)); intro g2 hg w2 hbox hb; have HO1 := aM (Kd.S_below HO0.out hb); have HB1 := aM (below_step HB.out hb); have HK1 := aM (Kept.below (Kept.refl w P) hb); have z0 : w2.cell? ⟨g2, 0, none⟩ = some (.int .i64 a0_0) := (blk_cell hbox 0).trans rfl; have z1 : w2.cell? ⟨g2, 1, none⟩ = some (.slice A0_1 l0_1.length c0_1) := (blk_cell hbox 1).trans rfl; clear hg hbox hb HO0 HB))
  go_wp2_with (first | ((with_reducible refine gate_callee (f := 26) rfl ?_); refine goesL_ (some 8) rfl rfl Try.func26 (by kernel_rfl) rfl #[.slice A0_1 l0_1.length c0_1, .int .i64 a1] rfl (by (try simp only [List.map_toArray, List.map_cons, List.map_nil]); first | done | rfl) ?_; refine (laws_markAlarmS.calls k P _ _ l0_1 a1 r1 r2 w0 _ HB1.out HO1.out HF.out).mono ?_; rintro e w3 ⟨rfl, hy, hb, hk⟩; refine ⟨_, rfl, ?_⟩; have HY := aM hy; have HB2 := aM hb; have HK2 := aM (Kept.then_ HK1.out hk (fun k_ hk_ => Or.inl hk_)); clear hy hb hk z0 z1))
  try go_wp2
  go_ret
  exact ⟨rfl, HY.out, HB2.out, HK2.out⟩
/-! ### impl_PutChain: function 38 (by hand) -/
def impl_PutChain.f (k : Nat) (a0_0 : Int) (l0_1 : List (S26)) (l1_0 : List (S89)) (a1_1 : Int) (a1_2 : Int) (a1_3 : ByteArray) : Option (Int × (List (S26)) × Bool) := (impl_copyChain.f k a0_0 l0_1).bind fun bt296 => ((impl_InChain.f k a0_0 l0_1 l1_0).bind fun t301 => (if t301 ≥ 0 then (if 0 ≤ t301 then (if t301 < (l0_1.length : Int) then ((impl_Merge.f ((rd_T26 l0_1 t301).f0) ((rd_T26 l0_1 t301).f1) ((rd_T26 l0_1 t301).f2) ((rd_T26 l0_1 t301).f3) l1_0 a1_1 a1_2 a1_3).bind fun bt303 => (if t301 < (bt296.2.length : Int) then (some (bt296.1, (bt296.2.set (t301 : Int).toNat (⟨bt303.1, bt303.2.1, bt303.2.2.1, bt303.2.2.2⟩ : S26)), false)) else (none))) else (none)) else (none)) else ((impl_copyAlarm.f l1_0 a1_1 a1_2 a1_3).bind fun bt310 => (if bt296.2.length < 549755813888 then (some (bt296.1, (bt296.2 ++ [(⟨bt310.1, bt310.2.1, bt310.2.2.1, bt310.2.2.2⟩ : S26)]), true)) else (none)))))
def laws_PutChain_.T4 : Bool × List (List Nat × List Nat) := (true, [([], []), ([0], [0]), ([], []), ([], []), ([3], [3]), ([], []), ([4, 5], [4, 5]), ([6], [6]), ([], []), ([7, 8], [7, 8]), ([1, 2, 0, 1, 2, 3, 4, 5, 6, 7, 8, 9], [1, 2]), ([10, 9, 9, 0, 1, 2, 3, 4, 5, 6, 7, 8, 9], [9, 10])])
def laws_PutChain_.B4 : List Nat := [0, 1, 0, 0, 8, 0, 56, 120, 0, 504, 1023, 2047]
theorem laws_PutChain_.tab4 : rtab .any (opsOf Try.f38 4) = laws_PutChain_.T4 := by kernel_rfl
theorem laws_PutChain_.bits4 : waitsOk laws_PutChain_.T4.2 laws_PutChain_.B4 = true := by kernel_rfl
def laws_PutChain_.T6 : Bool × List (List Nat × List Nat) := (true, [([], []), ([0], [0]), ([], []), ([2], [2]), ([3], [3]), ([1, 4, 3], [1, 4]), ([0, 1, 2, 3, 4, 5], []), ([6, 5, 5, 0, 1, 2, 3, 4, 5], [5, 6])])
def laws_PutChain_.B6 : List Nat := [0, 1, 0, 4, 12, 31, 63, 127]
theorem laws_PutChain_.tab6 : rtab .any (opsOf Try.f38 6) = laws_PutChain_.T6 := by kernel_rfl
theorem laws_PutChain_.bits6 : waitsOk laws_PutChain_.T6.2 laws_PutChain_.B6 = true := by kernel_rfl
set_option maxHeartbeats 16000000 in
set_option maxRecDepth 100000 in
theorem impl_PutChain.way1 (k : Nat) (a0_0 : Int) (A0_1 : Option Addr) (c0_1 : Nat) (l0_1 : List S26) (A1_0 : Option Addr) (c1_0 : Nat) (l1_0 : List S89) (a1_1 : Int) (a1_2 : Int) (a1_3 : ByteArray) (w : World) (hr0_1 : Kd.C k26 w A0_1 l0_1.length l0_1) (hc0_1 : l0_1.length ≤ c0_1) (hr1_0 : Kd.C k89 w A1_0 l1_0.length l1_0) (hc1_0 : l1_0.length ≤ c1_0) (fc : Int) (m0 : List (S26)) (t : Int) (lx : List (S89)) (sx : Int) (ex : Int) (nx : ByteArray)
  (F1 : Aside0 (impl_copyChain.f k a0_0 l0_1 = some (fc, m0)))
  (F2 : Aside0 (impl_InChain.f k a0_0 l0_1 l1_0 = some t))
  (F3 : Aside0 (impl_Merge.f ((rd_T26 l0_1 t).f0) ((rd_T26 l0_1 t).f1) ((rd_T26 l0_1 t).f2) ((rd_T26 l0_1 t).f3) l1_0 a1_1 a1_2 a1_3 = some (lx, sx, ex, nx)))
  (K0 : Aside0 (decide (0 ≤ t) = true))
  (HQ : Aside0 (t < (l0_1.length : Int))) (HQ1 : Aside0 (t < (m0.length : Int))) :
  Calls Try.prog 38 #[.agg #[.int .i64 a0_0, .slice A0_1 l0_1.length c0_1], .agg #[.slice A1_0 l1_0.length c1_0, .int .i64 a1_1, .int .i64 a1_2, .string a1_3]] w fun e w' => ∃ v1_ : Value, e = .returned (.tuple #[.agg #[.int .i64 fc, v1_], .bool false]) ∧ Kd.S k26 26 w' w.heap.size (fun _ => True) v1_ (m0.set t.toNat (⟨lx, sx, ex, nx⟩ : S26)) ∧ Below w.heap.size w w' := by
 have Hc0_1 := aM hc0_1
 have Hc1_0 := aM hc1_0
 have HR0_1 := aM hr0_1
 have HR1_0 := aM hr1_0
 have G := (Gs.below w).add (Gs.top (Nat.le_refl w.heap.size))
 clear hc0_1 hc1_0 hr0_1 hr1_0
 go_enter Try.func38, Try.ntmps38
 go_upto_region 1 with (first | ((with_reducible refine gate_dst (N := 2) rfl ?_); refine box_event ?hg (N := 2) ?hd (cs := #[.int .i64 a0_0, .slice A0_1 l0_1.length c0_1]) (t := 39) ?hr ?_; (case hd => rfl); (case hg => rfl); (case hr => first | (go_simp; done) | (go_simp; rfl)); intro g2 hg w2 hbox hb; have Hg2 := aM (show w.heap.size ≤ g2 from hg ▸ G.at_.2); have G1 := (((G.go hb).add (Gs.ofBox2 hbox)).add (Gs.top (Nat.succ_le_of_lt (blk_lt hbox)))); clear hb hbox hg G; have G := G1; clear G1) | ((with_reducible refine gate_dst (N := 3) rfl ?_); refine box_event ?hg (N := 3) ?hd (cs := #[.slice A1_0 l1_0.length c1_0, .int .i64 a1_1, .int .i64 a1_2, .string a1_3]) (t := 26) ?hr ?_; (case hd => rfl); (case hg => rfl); (case hr => first | (go_simp; done) | (go_simp; rfl)); intro g3 hg w2 hbox hb; have Hg3 := aM (show g2 + 1 ≤ g3 from hg ▸ G.at_.2); have G1 := (((G.go hb).add (Gs.ofBox4 hbox)).add (Gs.top (Nat.succ_le_of_lt (blk_lt hbox)))); clear hb hbox hg G; have G := G1; clear G1) | ((with_reducible refine gate_dst (N := 4) rfl ?_); refine box_event ?hg (N := 4) ?hd (cs := #[.int .i64 0, .slice none 0 0]) (t := 39) ?hr ?_; (case hd => rfl); (case hg => rfl); (case hr => first | (go_simp; done) | (go_simp; rfl)); intro g4 hg w2 hbox hb; have Hg4 := aM (show g3 + 1 ≤ g4 from hg ▸ G.at_.2); have G1 := (((G.go hb).add (Gs.blk hbox)).add (Gs.top (Nat.succ_le_of_lt (blk_lt hbox)))); clear hb hbox hg G; have G := G1; clear G1))
 obtain ⟨zg2_0, zg2_1⟩ := G.at_.1.1.1.1.1.2
 go_upto_region 2 with (first | ((with_reducible refine gate_callee (f := 78) rfl ?_); refine goesL_ (some 9) rfl rfl Try.func78 (by kernel_rfl) rfl #[.agg #[.int .i64 a0_0, .slice A0_1 l0_1.length c0_1]] rfl (by (try simp only [List.map_toArray, List.map_cons, List.map_nil]); first | done | rfl) ?_; refine (impl_copyChain.calls k a0_0 _ _ l0_1 fc m0 _ (Kd.C_below HR0_1.out G.at_.1.1.1.1.1.1.1) Hc0_1.out F1.out).mono ?_; rintro e w1 ⟨v9_0, rfl, ho9_0, hb⟩; refine ⟨_, rfl, ?_⟩; obtain ⟨A9_0, c9_0, rfl, _, _⟩ := Kd.S_reads ho9_0; obtain ⟨loA9_0, hiA9_0, hOA9_0, hTA9_0, hSA9_0⟩ := newS G.at_.2 G.at_.1.1.1.1.1.1.1 hb ho9_0; have OA9_0 := aM hOA9_0; clear hOA9_0 ho9_0; have G1 := (((G.go hb).add (Gs.ownS hSA9_0)).add (Gs.top hTA9_0)); clear G hb hSA9_0 hTA9_0; have G := G1; clear G1) | ((with_reducible refine gate_dst (N := 6) rfl ?_); refine box_event ?hg (N := 6) ?hd (cs := #[.int .i64 0, .slice none 0 0]) (t := 39) ?hr ?_; (case hd => rfl); (case hg => rfl); (case hr => first | (go_simp; done) | (go_simp; rfl)); intro g6 hg w2 hbox hb; have Hg6 := aM (show hiA9_0 ≤ g6 from hg ▸ G.at_.2); have HB_g6 := aM hb; have HE_g6 := aM hg; have BK_g6 := aM hbox; have zg6_0 := cz2_0 ⟨hbox⟩; have yg6_0 := blk_frozen hbox 0; have zg6_1 := cz2_1 ⟨hbox⟩; have yg6_1 := blk_frozen hbox 1; clear hb hbox hg))
 (try clear zg2_0)
 (try clear zg2_1)
 (try clear zg6_0)
 (try clear yg6_0)
 (try clear zg6_1)
 (try clear yg6_1)
 have G1 := ((Gs.put2 (.int .i64 fc) (.slice A9_0 m0.length c9_0) G HB_g6 HE_g6 BK_g6).add (Gs.blk (set2_blk BK_g6.out))).add (Gs.top (Nat.succ_le_of_lt (blk_lt (set2_blk BK_g6.out))))
 clear G; have G := G1; clear G1
 generalize ((w2.setCell ⟨g6, 0, none⟩ (.int .i64 fc)).setCell ⟨g6, 1, none⟩ (.slice A9_0 m0.length c9_0)) = w3 at G ⊢
 clear HB_g6 HE_g6 BK_g6
 obtain ⟨zg2_0, zg2_1⟩ := G.at_.1.1.1.1.1.1.1.1.1.1.2
 obtain ⟨zg3_0, zg3_1, zg3_2, zg3_3⟩ := G.at_.1.1.1.1.1.1.1.1.2
 go_upto_region 3 with (first | ((with_reducible refine gate_callee (f := 79) rfl ?_); refine goesL_ (some 13) rfl rfl Try.func79 (by kernel_rfl) rfl #[.agg #[.int .i64 a0_0, .slice A0_1 l0_1.length c0_1], .slice A1_0 l1_0.length c1_0] rfl (by (try simp only [List.map_toArray, List.map_cons, List.map_nil]); first | done | rfl) ?_; refine (impl_InChain.calls k a0_0 _ _ l0_1 _ _ l1_0 t _ (Kd.C_below HR0_1.out G.at_.1.1.1.1.1.1.1.1.1.1.1.1) Hc0_1.out (Kd.C_below HR1_0.out G.at_.1.1.1.1.1.1.1.1.1.1.1.1) Hc1_0.out F2.out).mono ?_; rintro e w1 ⟨rfl, hb⟩; refine ⟨_, rfl, ?_⟩; have G1 := (G.go hb); clear G hb; have G := G1; clear G1))
 (try clear zg2_0)
 (try clear zg2_1)
 (try clear zg3_0)
 (try clear zg3_1)
 (try clear zg3_2)
 (try clear zg3_3)
 have hk0_ := K0.out
 go_upto_region 4 with (fail)
 have p0 : 0 ≤ t := of_decide_eq_true K0.out
 have q0 := HQ.out
 have q1 := HQ1.out
 obtain ⟨ad, Ae, ce, e_, hx0, hx1, hx2, hx3, hle, hCe⟩ := at_T26 HR0_1.out t p0 q0
 cases e_
 have Hce := aM hle
 have HCe := aM hCe
 clear hle hCe
 obtain ⟨g9, cap_, ev_, _, _, _⟩ := Kd.S_form G.at_.1.1.1.1.2 (by omega)
 injection ev_ with eA_ _ ec_
 subst eA_
 subst ec_
 have hB := G.at_.1.1.1.1.1.1.1.1.1.1.1.1
 have G1 := (((G.add (Gs.cell (pw_cell_below hB hx0))).add (Gs.cell (pw_cell_below hB hx1))).add (Gs.cell (pw_cell_below hB hx2))).add (Gs.cell (pw_cell_below hB hx3))
 clear G hB hx0 hx1 hx2 hx3; have G := G1; clear G1
 have p0t := eq_true p0
 have q0t := eq_true q0
 have q1t := eq_true q1
 refine Gs.hide G (fun Ψ GP hP hQ => ?_)
 clear G
 refine regD [11] GP (by kernel_rfl) rfl laws_PutChain_.tab4 laws_PutChain_.bits4 (fun wr hbr GV HT_ HW_ => ?_)
 clear GP hbr
 have HB := aM (Below.refl wr.heap.size wr)
 refine (pu 0 (some 16) 1 ?_ ?_ HT_ rfl rfl (by kernel_rfl) (fun _ _ _ h => h) ?_ ?_ ?_ (tk 1 (some 17) 3 ?_ ?_ HT_ HW_ rfl rfl (by kernel_rfl) (fun _ _ _ h => h) (GV.go HB.out).at_ ?_ ?_ ?_ (pu 2 (some 18) 7 ?_ ?_ HT_ rfl rfl (by kernel_rfl) (fun _ _ _ h => h) ?_ ?_ ?_ (pu 3 (some 19) 15 ?_ ?_ HT_ rfl rfl (by kernel_rfl) (fun _ _ _ h => h) ?_ ?_ ?_ (tk 4 (some 20) 31 ?_ ?_ HT_ HW_ rfl rfl (by kernel_rfl) (fun _ _ _ h => h) (GV.go HB.out).at_ ?_ ?_ ?_ (pu 5 (some 21) 63 ?_ ?_ HT_ rfl rfl (by kernel_rfl) (fun _ _ _ h => h) ?_ ?_ ?_ (pu 6 (some 22) 127 ?_ ?_ HT_ rfl rfl (by kernel_rfl) (fun _ _ _ h => h) ?_ ?_ ?_ (tk 7 (some 23) 255 ?_ ?_ HT_ HW_ rfl rfl (by kernel_rfl) (fun _ _ _ h => h) (GV.go HB.out).at_ ?_ ?_ ?_ (tk 8 (some 24) 511 ?_ ?_ HT_ HW_ rfl rfl (by kernel_rfl) (fun _ _ _ h => h) (GV.go HB.out).at_ ?_ ?_ ?_ ?_)))))))))
 all_goals first | (rintro w' hp_; obtain ⟨⟨⟨⟨⟨⟨⟨⟨⟨⟨⟨⟨⟨⟨⟨⟨-, -⟩, ⟨s0, s1⟩⟩, -⟩, ⟨s2, s3, s4, s5⟩⟩, -⟩, -⟩, -⟩, -⟩, -⟩, ⟨s6, s7⟩⟩, -⟩, -⟩, s8⟩, s9⟩, s10⟩, s11⟩ := hP _ hp_; go_simp; with_reducible rfl) | (intro w'; go_simp; with_reducible rfl) | (simp only [Act.put, List.setIfInBounds_toArray, List.set_cons_zero, List.set_cons_succ, i64_w, i32_w]; rfl) | rfl | skip
 refine rcD 9 25 1023 HT_ rfl rfl (by decide) (by kernel_rfl) Try.func11 (by kernel_rfl) rfl rfl #[.agg #[.slice Ae (rd_T26 l0_1 t).f0.length ce, .int .i64 ((rd_T26 l0_1 t).f1), .int .i64 ((rd_T26 l0_1 t).f2), .string ((rd_T26 l0_1 t).f3)], .agg #[.slice A1_0 l1_0.length c1_0, .int .i64 a1_1, .int .i64 a1_2, .string a1_3]] (by rfl) (by (try simp only [List.map_toArray, List.map_cons, List.map_nil]); first | done | rfl) ?_
 refine (impl_Merge.calls _ _ ((rd_T26 l0_1 t).f0) ((rd_T26 l0_1 t).f1) ((rd_T26 l0_1 t).f2) ((rd_T26 l0_1 t).f3) _ _ l1_0 a1_1 a1_2 a1_3 lx sx ex nx _ (Kd.C_below HCe.out (hP _ (GV.go HB.out).at_).1.1.1.1.1.1.1.1.1.1.1.1.1.1.1.1) Hce.out (Kd.C_below HR1_0.out (hP _ (GV.go HB.out).at_).1.1.1.1.1.1.1.1.1.1.1.1.1.1.1.1) Hc1_0.out F3.out).mono ?_
 rintro e w1 ⟨v25_0, rfl, ho25_0, hb⟩
 obtain ⟨A25_0, c25_0, rfl, _, _⟩ := Kd.R_reads ho25_0
 have hTop := (hP _ (GV.go HB.out).at_).1.1.1.1.2
 obtain ⟨loA25_0, hiA25_0, hOA25_0, hTA25_0, hSA25_0⟩ := newR (Nat.le_refl _) (hP _ (GV.go HB.out).at_).1.1.1.1.1.1.1.1.1.1.1.1.1.1.1.1 hb ho25_0
 have XA25_0 := Gs.ownR hSA25_0
 have OA25_0 := aM (And.intro (Nat.le_trans hTop hOA25_0.1) hOA25_0.2)
 (try clear HTI)
 have HTI := aM hTA25_0
 clear hTop
 have HB1 := aM (below_step HB.out hb); clear HB hb hOA25_0 hTA25_0 hSA25_0 ho25_0; have HB := HB1; clear HB1
 refine ⟨_, rfl, (GV.go HB.out).at_, ?_⟩; intro a' ha; simp only [Act.put, List.setIfInBounds_toArray, List.set_cons_zero, List.set_cons_succ, i64_w, i32_w] at ha; subst ha
 refine (pu 10 (some 26) 2047 ?_ ?_ HT_ rfl rfl (by kernel_rfl) (fun _ _ _ h => h) ?_ ?_ ?_ ?_)
 all_goals first | (rintro w' hp_; obtain ⟨⟨⟨⟨⟨⟨⟨⟨⟨⟨⟨⟨⟨⟨⟨⟨-, -⟩, ⟨s0, s1⟩⟩, -⟩, ⟨s2, s3, s4, s5⟩⟩, -⟩, -⟩, -⟩, -⟩, -⟩, ⟨s6, s7⟩⟩, -⟩, -⟩, s8⟩, s9⟩, s10⟩, s11⟩ := hP _ hp_; go_simp; with_reducible rfl) | (intro w'; go_simp; with_reducible rfl) | (simp only [Act.put, List.setIfInBounds_toArray, List.set_cons_zero, List.set_cons_succ, i64_w, i32_w]; rfl) | rfl | skip
 have hr9 := (hP _ (GV.go HB.out).at_).1.1.1.1.1.1.1.1.2
 have h4 := (hP _ (GV.go HB.out).at_).1.1.1.1.1.1.1.1.1.1.2
 have h6 := (hP _ (GV.go HB.out).at_).1.1.1.1.1.2
 have hbw := (hP _ (GV.go HB.out).at_).1.1.1.1.1.1.1.1.1.1.1.1.1.1.1.1
 have hin9 := (Kd.S_R hr9).1 g9 (by simp [Value.ownBlock])
 have hg9 := (Kd.S_base hr9) g9 (by simp [Value.ownBlock])
 obtain ⟨oki, c_, hcl, hM, hcc, hfr, hoki, hH⟩ := Kd.S_elem (Kd.S_mono hr9 (ok' := fun k_ => k_ ≠ g4 ∧ ¬ Iv loA25_0 hiA25_0 k_) (fun k_ hk_ => (by unfold Iv at *; have o0_ := Hg2.out; have o1_ := Hg3.out; have o2_ := Hg4.out; have o3_ := OA9_0.out; have o4_ := Hg6.out; have o5_ := OA25_0.out; omega))) z26 t p0 q1
 obtain ⟨v_, rfl, _⟩ := k26_openM hM
 have z0 : World.cell? _ ⟨g9, t.toNat * 4, none⟩ = some v_ := hcc 0 _ rfl
 have y0 : World.frozen? _ ⟨g9, t.toNat * 4, none⟩ = false := hfr 0
 have z1 : World.cell? _ ⟨g9, t.toNat * 4 + 1, none⟩ = some (.int .i64 (rd_T26 m0 t).f1) := hcc 1 _ rfl
 have y1 : World.frozen? _ ⟨g9, t.toNat * 4 + 1, none⟩ = false := hfr 1
 have z2 : World.cell? _ ⟨g9, t.toNat * 4 + 2, none⟩ = some (.int .i64 (rd_T26 m0 t).f2) := hcc 2 _ rfl
 have y2 : World.frozen? _ ⟨g9, t.toNat * 4 + 2, none⟩ = false := hfr 2
 have z3 : World.cell? _ ⟨g9, t.toNat * 4 + 3, none⟩ = some (.string (rd_T26 m0 t).f3) := hcc 3 _ rfl
 have y3 : World.frozen? _ ⟨g9, t.toNat * 4 + 3, none⟩ = false := hfr 3
 refine lsD 11 4095 (w1 := ?w11_) HT_ rfl rfl (by decide) (by kernel_rfl) (by rfl) ?hr11_ ?_
 case hr11_ => go_simp; rfl
 clear z0 z1 z2 z3 y0 y1 y2 y3 hcl hcc hfr hM
 refine done_ (done_of HT_.out (by kernel_rfl)) ?_
 have hS1 := (Kd.S_seg (okg := Iv loA25_0 hiA25_0) hH p0 q1 (seg := [.slice A25_0 lx.length c25_0, .int .i64 sx, .int .i64 ex, .string nx]) (j := 0) (show 0 + 4 ≤ 4 by decide) (x' := (⟨lx, sx, ex, nx⟩ : S26)) (okp := Iv loA25_0 hiA25_0) (k26_mkM _ _ _ (⟨lx, sx, ex, nx⟩ : S26) (v0 := .slice A25_0 lx.length c25_0) XA25_0.at_) (fun _ h_ => Or.inr h_) (fun k_ h_ => (by unfold Iv at *; have o0_ := Hg2.out; have o1_ := Hg3.out; have o2_ := Hg4.out; have o3_ := OA9_0.out; have o4_ := Hg6.out; have o5_ := OA25_0.out; constructor <;> omega))).1
 have hK0 := Kept.refl w1 (fun k_ => k_ = g9)
 have hK1 := Kept.setCell hK0 (p := ⟨g9, t.toNat * 4, none⟩) (Or.inl rfl) (.slice A25_0 lx.length c25_0)
 have hK2 := Kept.setCell hK1 (p := ⟨g9, t.toNat * 4 + 1, none⟩) (Or.inl rfl) (.int .i64 sx)
 have hK3 := Kept.setCell hK2 (p := ⟨g9, t.toNat * 4 + 2, none⟩) (Or.inl rfl) (.int .i64 ex)
 have hK4 := Kept.setCell hK3 (p := ⟨g9, t.toNat * 4 + 3, none⟩) (Or.inl rfl) (.string nx)
 have H4 := aM ((hK4.2 g4 (blk_lt h4) (by unfold Iv at *; have o0_ := Hg2.out; have o1_ := Hg3.out; have o2_ := Hg4.out; have o3_ := OA9_0.out; have o4_ := Hg6.out; have o5_ := OA25_0.out; omega)).trans h4)
 have H6 := aM ((hK4.2 g6 (blk_lt h6) (by unfold Iv at *; have o0_ := Hg2.out; have o1_ := Hg3.out; have o2_ := Hg4.out; have o3_ := OA9_0.out; have o4_ := Hg6.out; have o5_ := OA25_0.out; omega)).trans h6)
 have HBW := aM (show Below w.heap.size w ((((w1.setCell ⟨g9, t.toNat * 4, none⟩ (.slice A25_0 lx.length c25_0)).setCell ⟨g9, t.toNat * 4 + 1, none⟩ (.int .i64 sx)).setCell ⟨g9, t.toNat * 4 + 2, none⟩ (.int .i64 ex)).setCell ⟨g9, t.toNat * 4 + 3, none⟩ (.string nx)) from below_set (below_set (below_set (below_set hbw hg9) hg9) hg9) hg9)
 have HS1 := aM (show Kd.S k26 26 ((((w1.setCell ⟨g9, t.toNat * 4, none⟩ (.slice A25_0 lx.length c25_0)).setCell ⟨g9, t.toNat * 4 + 1, none⟩ (.int .i64 sx)).setCell ⟨g9, t.toNat * 4 + 2, none⟩ (.int .i64 ex)).setCell ⟨g9, t.toNat * 4 + 3, none⟩ (.string nx)) w.heap.size (fun k_ => k_ ≠ g4) (.slice (some ⟨g9, 0, none⟩) m0.length c9_0) (m0.set t.toNat (⟨lx, sx, ex, nx⟩ : S26)) from hS1)
 have HG4 := aM (show w.heap.size ≤ g4 from (by unfold Iv at *; have o0_ := Hg2.out; have o1_ := Hg3.out; have o2_ := Hg4.out; have o3_ := OA9_0.out; have o4_ := Hg6.out; have o5_ := OA25_0.out; omega))
 clear hS1 hK0 hK1 hK2 hK3 hK4 h4 h6 hbw hH hoki hr9 GV hP hQ HB
 generalize ((((w1.setCell ⟨g9, t.toNat * 4, none⟩ (.slice A25_0 lx.length c25_0)).setCell ⟨g9, t.toNat * 4 + 1, none⟩ (.int .i64 sx)).setCell ⟨g9, t.toNat * 4 + 2, none⟩ (.int .i64 ex)).setCell ⟨g9, t.toNat * 4 + 3, none⟩ (.string nx)) = w9 at H4 H6 HBW HS1 ⊢
 have z4_0 := cz2_0 H4
 have z4_1 := cz2_1 H4
 have y4_0 := blk_frozen H4.out 0
 have y4_1 := blk_frozen H4.out 1
 have z6_0 := cz2_0 H6
 have z6_1 := cz2_1 H6
 have n46 : g4 ≠ g6 := (by unfold Iv at *; have o0_ := Hg2.out; have o1_ := Hg3.out; have o2_ := Hg4.out; have o3_ := OA9_0.out; have o4_ := Hg6.out; have o5_ := OA25_0.out; omega)
 have n64 : g6 ≠ g4 := fun h_ => n46 h_.symm
 go_wp2
 refine bodyPost_ret (results_ct rfl _ _ g4 39 #[.int .i64 fc, .slice (some ⟨g9, 0, none⟩) m0.length c9_0] (0, 0) _ rfl (set2_blk H4.out) Try.underlying39 rfl (by kernel_rfl)) rfl ?_
 exact ⟨_, rfl, Kd.S_mono (Kd.S_far (Kd.S_far HS1.out (p := ⟨g4, 0, none⟩) (fun _ h_ => h_) _) (p := ⟨g4, 1, none⟩) (fun _ h_ => h_) _) (fun _ _ => trivial), below_set (below_set HBW.out HG4.out) HG4.out⟩
set_option maxHeartbeats 16000000 in
set_option maxRecDepth 100000 in
theorem impl_PutChain.way2 (k : Nat) (a0_0 : Int) (A0_1 : Option Addr) (c0_1 : Nat) (l0_1 : List S26) (A1_0 : Option Addr) (c1_0 : Nat) (l1_0 : List S89) (a1_1 : Int) (a1_2 : Int) (a1_3 : ByteArray) (w : World) (hr0_1 : Kd.C k26 w A0_1 l0_1.length l0_1) (hc0_1 : l0_1.length ≤ c0_1) (hr1_0 : Kd.C k89 w A1_0 l1_0.length l1_0) (hc1_0 : l1_0.length ≤ c1_0) (fc : Int) (m0 : List (S26)) (t : Int) (lx : List (S89)) (sx : Int) (ex : Int) (nx : ByteArray)
  (F1 : Aside0 (impl_copyChain.f k a0_0 l0_1 = some (fc, m0)))
  (F2 : Aside0 (impl_InChain.f k a0_0 l0_1 l1_0 = some t))
  (F3 : Aside0 (impl_copyAlarm.f l1_0 a1_1 a1_2 a1_3 = some (lx, sx, ex, nx)))
  (K0 : Aside0 (decide (0 ≤ t) = false))
  (HL : Aside0 (m0.length < 549755813888)) :
  Calls Try.prog 38 #[.agg #[.int .i64 a0_0, .slice A0_1 l0_1.length c0_1], .agg #[.slice A1_0 l1_0.length c1_0, .int .i64 a1_1, .int .i64 a1_2, .string a1_3]] w fun e w' => ∃ v1_ : Value, e = .returned (.tuple #[.agg #[.int .i64 fc, v1_], .bool true]) ∧ Kd.S k26 26 w' w.heap.size (fun _ => True) v1_ (m0 ++ [(⟨lx, sx, ex, nx⟩ : S26)]) ∧ Below w.heap.size w w' := by
 have Hc0_1 := aM hc0_1
 have Hc1_0 := aM hc1_0
 have HR0_1 := aM hr0_1
 have HR1_0 := aM hr1_0
 have G := (Gs.below w).add (Gs.top (Nat.le_refl w.heap.size))
 clear hc0_1 hc1_0 hr0_1 hr1_0
 go_enter Try.func38, Try.ntmps38
 go_upto_region 1 with (first | ((with_reducible refine gate_dst (N := 2) rfl ?_); refine box_event ?hg (N := 2) ?hd (cs := #[.int .i64 a0_0, .slice A0_1 l0_1.length c0_1]) (t := 39) ?hr ?_; (case hd => rfl); (case hg => rfl); (case hr => first | (go_simp; done) | (go_simp; rfl)); intro g2 hg w2 hbox hb; have Hg2 := aM (show w.heap.size ≤ g2 from hg ▸ G.at_.2); have G1 := (((G.go hb).add (Gs.ofBox2 hbox)).add (Gs.top (Nat.succ_le_of_lt (blk_lt hbox)))); clear hb hbox hg G; have G := G1; clear G1) | ((with_reducible refine gate_dst (N := 3) rfl ?_); refine box_event ?hg (N := 3) ?hd (cs := #[.slice A1_0 l1_0.length c1_0, .int .i64 a1_1, .int .i64 a1_2, .string a1_3]) (t := 26) ?hr ?_; (case hd => rfl); (case hg => rfl); (case hr => first | (go_simp; done) | (go_simp; rfl)); intro g3 hg w2 hbox hb; have Hg3 := aM (show g2 + 1 ≤ g3 from hg ▸ G.at_.2); have G1 := (((G.go hb).add (Gs.ofBox4 hbox)).add (Gs.top (Nat.succ_le_of_lt (blk_lt hbox)))); clear hb hbox hg G; have G := G1; clear G1) | ((with_reducible refine gate_dst (N := 4) rfl ?_); refine box_event ?hg (N := 4) ?hd (cs := #[.int .i64 0, .slice none 0 0]) (t := 39) ?hr ?_; (case hd => rfl); (case hg => rfl); (case hr => first | (go_simp; done) | (go_simp; rfl)); intro g4 hg w2 hbox hb; have Hg4 := aM (show g3 + 1 ≤ g4 from hg ▸ G.at_.2); have G1 := (((G.go hb).add (Gs.blk hbox)).add (Gs.top (Nat.succ_le_of_lt (blk_lt hbox)))); clear hb hbox hg G; have G := G1; clear G1))
 obtain ⟨zg2_0, zg2_1⟩ := G.at_.1.1.1.1.1.2
 go_upto_region 2 with (first | ((with_reducible refine gate_callee (f := 78) rfl ?_); refine goesL_ (some 9) rfl rfl Try.func78 (by kernel_rfl) rfl #[.agg #[.int .i64 a0_0, .slice A0_1 l0_1.length c0_1]] rfl (by (try simp only [List.map_toArray, List.map_cons, List.map_nil]); first | done | rfl) ?_; refine (impl_copyChain.calls k a0_0 _ _ l0_1 fc m0 _ (Kd.C_below HR0_1.out G.at_.1.1.1.1.1.1.1) Hc0_1.out F1.out).mono ?_; rintro e w1 ⟨v9_0, rfl, ho9_0, hb⟩; refine ⟨_, rfl, ?_⟩; obtain ⟨A9_0, c9_0, rfl, _, _⟩ := Kd.S_reads ho9_0; obtain ⟨loA9_0, hiA9_0, hOA9_0, hTA9_0, hSA9_0⟩ := newS G.at_.2 G.at_.1.1.1.1.1.1.1 hb ho9_0; have OA9_0 := aM hOA9_0; clear hOA9_0 ho9_0; have G1 := (((G.go hb).add (Gs.ownS hSA9_0)).add (Gs.top hTA9_0)); clear G hb hSA9_0 hTA9_0; have G := G1; clear G1) | ((with_reducible refine gate_dst (N := 6) rfl ?_); refine box_event ?hg (N := 6) ?hd (cs := #[.int .i64 0, .slice none 0 0]) (t := 39) ?hr ?_; (case hd => rfl); (case hg => rfl); (case hr => first | (go_simp; done) | (go_simp; rfl)); intro g6 hg w2 hbox hb; have Hg6 := aM (show hiA9_0 ≤ g6 from hg ▸ G.at_.2); have HB_g6 := aM hb; have HE_g6 := aM hg; have BK_g6 := aM hbox; have zg6_0 := cz2_0 ⟨hbox⟩; have yg6_0 := blk_frozen hbox 0; have zg6_1 := cz2_1 ⟨hbox⟩; have yg6_1 := blk_frozen hbox 1; clear hb hbox hg))
 (try clear zg2_0)
 (try clear zg2_1)
 (try clear zg6_0)
 (try clear yg6_0)
 (try clear zg6_1)
 (try clear yg6_1)
 have G1 := ((Gs.put2 (.int .i64 fc) (.slice A9_0 m0.length c9_0) G HB_g6 HE_g6 BK_g6).add (Gs.blk (set2_blk BK_g6.out))).add (Gs.top (Nat.succ_le_of_lt (blk_lt (set2_blk BK_g6.out))))
 clear G; have G := G1; clear G1
 generalize ((w2.setCell ⟨g6, 0, none⟩ (.int .i64 fc)).setCell ⟨g6, 1, none⟩ (.slice A9_0 m0.length c9_0)) = w3 at G ⊢
 clear HB_g6 HE_g6 BK_g6
 obtain ⟨zg2_0, zg2_1⟩ := G.at_.1.1.1.1.1.1.1.1.1.1.2
 obtain ⟨zg3_0, zg3_1, zg3_2, zg3_3⟩ := G.at_.1.1.1.1.1.1.1.1.2
 go_upto_region 3 with (first | ((with_reducible refine gate_callee (f := 79) rfl ?_); refine goesL_ (some 13) rfl rfl Try.func79 (by kernel_rfl) rfl #[.agg #[.int .i64 a0_0, .slice A0_1 l0_1.length c0_1], .slice A1_0 l1_0.length c1_0] rfl (by (try simp only [List.map_toArray, List.map_cons, List.map_nil]); first | done | rfl) ?_; refine (impl_InChain.calls k a0_0 _ _ l0_1 _ _ l1_0 t _ (Kd.C_below HR0_1.out G.at_.1.1.1.1.1.1.1.1.1.1.1.1) Hc0_1.out (Kd.C_below HR1_0.out G.at_.1.1.1.1.1.1.1.1.1.1.1.1) Hc1_0.out F2.out).mono ?_; rintro e w1 ⟨rfl, hb⟩; refine ⟨_, rfl, ?_⟩; have G1 := (G.go hb); clear G hb; have G := G1; clear G1))
 (try clear zg2_0)
 (try clear zg2_1)
 (try clear zg3_0)
 (try clear zg3_1)
 (try clear zg3_2)
 (try clear zg3_3)
 have hk0_ := K0.out
 go_upto_region 6 with (fail)
 refine Gs.hide G (fun Ψ GP hP hQ => ?_)
 clear G
 refine regD [5, 7] GP (by kernel_rfl) rfl laws_PutChain_.tab6 laws_PutChain_.bits6 (fun wr hbr GV HT_ HW_ => ?_)
 clear GP hbr
 have HB := aM (Below.refl wr.heap.size wr)
 refine (pu 0 (some 28) 1 ?_ ?_ HT_ rfl rfl (by kernel_rfl) (fun _ _ _ h => h) ?_ ?_ ?_ (tk 1 (some 29) 3 ?_ ?_ HT_ HW_ rfl rfl (by kernel_rfl) (fun _ _ _ h => h) (GV.go HB.out).at_ ?_ ?_ ?_ (tk 2 (some 30) 7 ?_ ?_ HT_ HW_ rfl rfl (by kernel_rfl) (fun _ _ _ h => h) (GV.go HB.out).at_ ?_ ?_ ?_ ?_)))
 all_goals first | (rintro w' hp_; obtain ⟨⟨⟨⟨⟨⟨⟨⟨⟨⟨⟨⟨-, -⟩, ⟨s0, s1⟩⟩, -⟩, ⟨s2, s3, s4, s5⟩⟩, -⟩, -⟩, -⟩, -⟩, -⟩, ⟨s6, s7⟩⟩, -⟩, -⟩ := hP _ hp_; go_simp; with_reducible rfl) | (intro w'; go_simp; with_reducible rfl) | (simp only [Act.put, List.setIfInBounds_toArray, List.set_cons_zero, List.set_cons_succ, i64_w, i32_w]; rfl) | rfl | skip
 refine rcD 3 31 15 HT_ rfl rfl (by decide) (by kernel_rfl) Try.func57 (by kernel_rfl) rfl rfl #[.agg #[.slice A1_0 l1_0.length c1_0, .int .i64 a1_1, .int .i64 a1_2, .string a1_3]] (by rfl) (by (try simp only [List.map_toArray, List.map_cons, List.map_nil]); first | done | rfl) ?_
 refine (impl_copyAlarm.calls _ _ l1_0 a1_1 a1_2 a1_3 lx sx ex nx _ (Kd.C_below HR1_0.out (hP _ (GV.go HB.out).at_).1.1.1.1.1.1.1.1.1.1.1.1) Hc1_0.out F3.out).mono ?_
 rintro e w1 ⟨v31_0, rfl, ho31_0, hb⟩
 obtain ⟨A31_0, c31_0, rfl, _, _⟩ := Kd.R_reads ho31_0
 have hTop := (hP _ (GV.go HB.out).at_).2
 obtain ⟨loA31_0, hiA31_0, hOA31_0, hTA31_0, hSA31_0⟩ := newR (Nat.le_refl _) (hP _ (GV.go HB.out).at_).1.1.1.1.1.1.1.1.1.1.1.1 hb ho31_0
 have XA31_0 := Gs.ownR hSA31_0
 have OA31_0 := aM (And.intro (Nat.le_trans hTop hOA31_0.1) hOA31_0.2)
 (try clear HTI)
 have HTI := aM hTA31_0
 clear hTop
 have HB1 := aM (below_step HB.out hb); clear HB hb hOA31_0 hTA31_0 hSA31_0 ho31_0; have HB := HB1; clear HB1
 refine ⟨_, rfl, (GV.go HB.out).at_, ?_⟩; intro a' ha; simp only [Act.put, List.setIfInBounds_toArray, List.set_cons_zero, List.set_cons_succ, i64_w, i32_w] at ha; subst ha
 have hr9 := (hP _ (GV.go HB.out).at_).1.1.1.1.2
 have h4 := (hP _ (GV.go HB.out).at_).1.1.1.1.1.1.2
 have h6 := (hP _ (GV.go HB.out).at_).1.2
 have hbw := (hP _ (GV.go HB.out).at_).1.1.1.1.1.1.1.1.1.1.1.1
 have hin9 := (Kd.S_R hr9).1
 have ne4 : some g4 ≠ (Value.slice A9_0 m0.length c9_0).ownBlock := fun h_ => by have q_ := hin9 g4 h_.symm; exact absurd q_ (by unfold Iv at *; have o0_ := Hg2.out; have o1_ := Hg3.out; have o2_ := Hg4.out; have o3_ := OA9_0.out; have o4_ := Hg6.out; have o5_ := OA31_0.out; omega)
 have ne6 : some g6 ≠ (Value.slice A9_0 m0.length c9_0).ownBlock := fun h_ => by have q_ := hin9 g6 h_.symm; exact absurd q_ (by unfold Iv at *; have o0_ := Hg2.out; have o1_ := Hg3.out; have o2_ := Hg4.out; have o3_ := OA9_0.out; have o4_ := Hg6.out; have o5_ := OA31_0.out; omega)
 refine one_ (i := 4) (N := some 32) (bz 8 31) rfl rfl (one_of HT_.out (by kernel_rfl)) (by decide) (fun K hK => ?_)
 refine value_ (w1 := ?_) (v := ?_) (by rfl) rfl ?_ ?_
 rotate_left 2
 · go_simp
   constructor
   · rfl
   · rfl
 refine hK.out _ _ (GV.go (below_step HB.out (below_alloc (Below.refl _ _) _))).at_ (fun _ => ?_)
 clear hK K
 refine norm_ (a' := ?_) ?_ ?_
 rotate_left
 · show Act.put _ (some 32) _ = _
   simp only [Act.put, List.setIfInBounds_toArray, List.set_cons_zero, List.set_cons_succ, i64_w, i32_w]
   rfl
 refine last_ (i := 5) (N := some 33) (bz 8 63) rfl rfl (one_of HT_.out (by kernel_rfl)) (by decide) (fun K hK => ?_)
 refine Kd.S_append_step k26 (w0 := w) w.heap.size (by rfl) (.tmp 29) (.tmp 32) 37 26 (.agg #[(.slice none 0 0), (.int .i64 0), (.int .i64 0), (.string ⟨#[]⟩)]) 56 rfl Try.underlying37 info26 rfl (by decide) (by omega) (.slice A9_0 m0.length c9_0) m0 (⟨lx, sx, ex, nx⟩ : S26) [.slice A31_0 lx.length c31_0, .int .i64 sx, .int .i64 ex, .string nx] (fun k_ => k_ ≠ g4 ∧ k_ ≠ g6) (Iv loA31_0 hiA31_0) rfl rfl ?aP ?aQ ?aF ?aO ?aB ?aS ?aL ?_
 case aP => exact k26_mkM _ _ _ (⟨lx, sx, ex, nx⟩ : S26) (v0 := .slice A31_0 lx.length c31_0) XA31_0.at_
 case aQ => exact fun k_ h_ => ⟨(by unfold Iv at *; have o0_ := Hg2.out; have o1_ := Hg3.out; have o2_ := Hg4.out; have o3_ := OA9_0.out; have o4_ := Hg6.out; have o5_ := OA31_0.out; constructor <;> omega), fun h2_ => by have q_ := hin9 k_ h2_.symm; unfold Iv at *; have o0_ := Hg2.out; have o1_ := Hg3.out; have o2_ := Hg4.out; have o3_ := OA9_0.out; have o4_ := Hg6.out; have o5_ := OA31_0.out; omega⟩
 case aF => exact fun k_ h_ => ⟨by have := blk_lt h4; omega, by have := blk_lt h6; omega⟩
 case aO => exact Kd.S_mono hr9 (fun k_ hk_ => (by unfold Iv at *; have o0_ := Hg2.out; have o1_ := Hg3.out; have o2_ := Hg4.out; have o3_ := OA9_0.out; have o4_ := Hg6.out; have o5_ := OA31_0.out; refine ⟨⟨?_, ?_⟩, ?_⟩ <;> omega))
 case aB => exact hbw
 case aS => exact hbw.size
 case aL => have := HL.out; omega
 intro v1 w2 ho hb hg hat
 obtain ⟨ml, hml⟩ : ∃ y_ : List S26, y_ = m0 ++ [(⟨lx, sx, ex, nx⟩ : S26)] := ⟨_, rfl⟩
 rw [← hml] at ho
 have NML := aM hml
 clear hml
 obtain ⟨An, cn, rfl⟩ := Kd.S_slice ho
 have H4 := aM ((hg.block g4 (blk_lt h4) ne4).trans h4)
 have H6 := aM ((hg.block g6 (blk_lt h6) ne6).trans h6)
 have HBW := aM hb
 have HO := aM ho
 refine hK.out _ _ ?_
 clear hK K ho hb hg hat hr9 h4 h6 hbw hin9 ne4 ne6 GV hP hQ HB
 refine norm_ (a' := ?_) ?_ ?_
 rotate_left
 · show Act.put _ (some 33) _ = _
   simp only [Act.put, List.setIfInBounds_toArray, List.set_cons_zero, List.set_cons_succ, i64_w, i32_w]
   rfl
 refine (pu 6 (some 34) 127 ?_ ?_ HT_ rfl rfl (by kernel_rfl) (fun _ _ _ h => h) ?_ ?_ ?_ ?_)
 all_goals first | (rintro w' hp_; obtain ⟨⟨⟨⟨⟨⟨⟨⟨⟨⟨⟨⟨-, -⟩, ⟨s0, s1⟩⟩, -⟩, ⟨s2, s3, s4, s5⟩⟩, -⟩, -⟩, -⟩, -⟩, -⟩, ⟨s6, s7⟩⟩, -⟩, -⟩ := hP _ hp_; go_simp; with_reducible rfl) | (intro w'; go_simp; with_reducible rfl) | (simp only [Act.put, List.setIfInBounds_toArray, List.set_cons_zero, List.set_cons_succ, i64_w, i32_w]; rfl) | rfl | skip
 have z6_0 := cz2_0 H6
 have z6_1 := cz2_1 H6
 have y6_0 := blk_frozen H6.out 0
 have y6_1 := blk_frozen H6.out 1
 refine lsD 7 255 (w1 := ?w7_) HT_ rfl rfl (by decide) (by kernel_rfl) (by rfl) ?hr7_ ?_
 case hr7_ => go_simp; rfl
 clear z6_0 z6_1 y6_0 y6_1
 refine done_ (done_of HT_.out (by kernel_rfl)) ?_
 have n46_ : g4 ≠ g6 := (by unfold Iv at *; have o0_ := Hg2.out; have o1_ := Hg3.out; have o2_ := Hg4.out; have o3_ := OA9_0.out; have o4_ := Hg6.out; have o5_ := OA31_0.out; omega)
 have HG4 := aM (show w.heap.size ≤ g4 from (by unfold Iv at *; have o0_ := Hg2.out; have o1_ := Hg3.out; have o2_ := Hg4.out; have o3_ := OA9_0.out; have o4_ := Hg6.out; have o5_ := OA31_0.out; omega))
 have HG6 := aM (show w.heap.size ≤ g6 from (by unfold Iv at *; have o0_ := Hg2.out; have o1_ := Hg3.out; have o2_ := Hg4.out; have o3_ := OA9_0.out; have o4_ := Hg6.out; have o5_ := OA31_0.out; omega))
 have H41 := aM ((Below.heap_setCell w2 ⟨g6, 1, none⟩ (.slice An ml.length cn) g4 n46_).trans H4.out)
 have H61 := aM (blk_put H6.out 1 (.slice An ml.length cn) rfl)
 have HBW1 := aM (show Below w.heap.size w (w2.setCell ⟨g6, 1, none⟩ (.slice An ml.length cn)) from below_set HBW.out HG6.out)
 have HS1 := aM (show Kd.S k26 26 (w2.setCell ⟨g6, 1, none⟩ (.slice An ml.length cn)) w.heap.size (fun k_ => k_ ≠ g4) (.slice An ml.length cn) ml from Kd.S_mono (Kd.S_far HO.out (p := ⟨g6, 1, none⟩) (fun k_ h_ => h_.2) _) (fun k_ h_ => h_.1))
 clear H4 H6 HBW HO n46_
 generalize (w2.setCell ⟨g6, 1, none⟩ (.slice An ml.length cn)) = w9 at H41 H61 HBW1 HS1 ⊢
 have H4 := H41
 have H6 := H61
 have HBW := HBW1
 clear H41 H61 HBW1
 have z4_0 := cz2_0 H4
 have z4_1 := cz2_1 H4
 have y4_0 := blk_frozen H4.out 0
 have y4_1 := blk_frozen H4.out 1
 have z6_0 : w9.cell? ⟨g6, 0, none⟩ = some (.int .i64 fc) := (blk_cell H6.out 0).trans rfl
 have z6_1 : w9.cell? ⟨g6, 1, none⟩ = some (.slice An ml.length cn) := (blk_cell H6.out 1).trans rfl
 have n46 : g4 ≠ g6 := (by unfold Iv at *; have o0_ := Hg2.out; have o1_ := Hg3.out; have o2_ := Hg4.out; have o3_ := OA9_0.out; have o4_ := Hg6.out; have o5_ := OA31_0.out; omega)
 have n64 : g6 ≠ g4 := fun h_ => n46 h_.symm
 go_wp2
 refine bodyPost_ret (results_ct rfl _ _ g4 39 #[.int .i64 fc, .slice An ml.length cn] (0, 0) _ rfl (set2_blk H4.out) Try.underlying39 rfl (by kernel_rfl)) rfl ?_
 exact ⟨_, rfl, by rw [← NML.out]; exact Kd.S_mono (Kd.S_far (Kd.S_far HS1.out (p := ⟨g4, 0, none⟩) (fun _ h_ => h_) _) (p := ⟨g4, 1, none⟩) (fun _ h_ => h_) _) (fun _ _ => trivial), below_set (below_set HBW.out HG4.out) HG4.out⟩
theorem impl_PutChain.calls (k : Nat) (a0_0 : Int) (A0_1 : Option Addr) (c0_1 : Nat) (l0_1 : List S26) (A1_0 : Option Addr) (c1_0 : Nat) (l1_0 : List S89) (a1_1 : Int) (a1_2 : Int) (a1_3 : ByteArray) (r1 : Int) (r2 : List (S26)) (r3 : Bool) (w : World) (hr0_1 : Kd.C k26 w A0_1 l0_1.length l0_1) (hc0_1 : l0_1.length ≤ c0_1) (hr1_0 : Kd.C k89 w A1_0 l1_0.length l1_0) (hc1_0 : l1_0.length ≤ c1_0) (h : impl_PutChain.f k a0_0 l0_1 l1_0 a1_1 a1_2 a1_3 = some (r1, r2, r3)) :
    Calls Try.prog 38 #[.agg #[.int .i64 a0_0, .slice A0_1 l0_1.length c0_1], .agg #[.slice A1_0 l1_0.length c1_0, .int .i64 a1_1, .int .i64 a1_2, .string a1_3]] w fun e w' => ∃ v1_ : Value, e = .returned (.tuple #[.agg #[.int .i64 r1, v1_], .bool r3]) ∧ Kd.S k26 26 w' w.heap.size (fun _ => True) v1_ r2 ∧ Below w.heap.size w w' := by
  unfold impl_PutChain.f at h
  obtain ⟨⟨fc, m0⟩, h1, h⟩ := Option.bind_eq_some_iff.mp h
  obtain ⟨t, h2, h⟩ := Option.bind_eq_some_iff.mp h
  dsimp only at h1 h2 h
  by_cases c : t ≥ 0
  · rw [if_pos c] at h
    by_cases c2 : t < (l0_1.length : Int)
    · rw [if_pos (show 0 ≤ t from c), if_pos c2] at h
      obtain ⟨⟨lx, sx, ex, nx⟩, h3, h⟩ := Option.bind_eq_some_iff.mp h
      dsimp only at h3 h
      by_cases c3 : t < (m0.length : Int)
      · rw [if_pos c3] at h
        simp only [Option.some.injEq, Prod.mk.injEq] at h
        obtain ⟨rfl, rfl, rfl⟩ := h
        exact impl_PutChain.way1 k a0_0 _ _ l0_1 _ _ l1_0 a1_1 a1_2 a1_3 w hr0_1 hc0_1 hr1_0 hc1_0 fc m0 t lx sx ex nx ⟨h1⟩ ⟨h2⟩ ⟨h3⟩ ⟨decide_eq_true c⟩ ⟨c2⟩ ⟨c3⟩
      · rw [if_neg c3] at h; cases h
    · rw [if_pos (show 0 ≤ t from c), if_neg c2] at h; cases h
  · rw [if_neg c] at h
    obtain ⟨⟨lx, sx, ex, nx⟩, h3, h⟩ := Option.bind_eq_some_iff.mp h
    dsimp only at h3 h
    by_cases c3 : m0.length < 549755813888
    · rw [if_pos c3] at h
      simp only [Option.some.injEq, Prod.mk.injEq] at h
      obtain ⟨rfl, rfl, rfl⟩ := h
      exact impl_PutChain.way2 k a0_0 _ _ l0_1 _ _ l1_0 a1_1 a1_2 a1_3 w hr0_1 hc0_1 hr1_0 hc1_0 fc m0 t lx sx ex nx ⟨h1⟩ ⟨h2⟩ ⟨h3⟩ ⟨decide_eq_false c⟩ ⟨c3⟩
    · rw [if_neg c3] at h; cases h
def laws_FnExactPutChain.T8 : Bool × List (List Nat × List Nat) := (true, [([], []), ([0], [0]), ([], []), ([2, 1], [2]), ([1, 3, 3], [1, 3]), ([4], [4]), ([5], [5]), ([5], [5]), ([], []), ([8, 6, 4, 0, 1, 2, 3, 4, 5, 6, 8], [6, 8]), ([7, 9, 0, 1, 2, 3, 4, 5, 6, 7, 8, 9], [7])])
def laws_FnExactPutChain.B8 : List Nat := [0, 1, 0, 7, 15, 31, 63, 63, 0, 383, 1023]
theorem laws_FnExactPutChain.tab8 : rtab .any (opsOf Try.f6 8) = laws_FnExactPutChain.T8 := by kernel_rfl
theorem laws_FnExactPutChain.bits8 : waitsOk laws_FnExactPutChain.T8.2 laws_FnExactPutChain.B8 = true := by kernel_rfl
def laws_FnExactPutChain.T14 : Bool × List (List Nat × List Nat) := (true, [([], []), ([], []), ([1], [1]), ([0, 2, 2], [0, 2]), ([3], [3])])
def laws_FnExactPutChain.B14 : List Nat := [0, 0, 2, 7, 15]
theorem laws_FnExactPutChain.tab14 : rtab .any (opsOf Try.f6 14) = laws_FnExactPutChain.T14 := by kernel_rfl
theorem laws_FnExactPutChain.bits14 : waitsOk laws_FnExactPutChain.T14.2 laws_FnExactPutChain.B14 = true := by kernel_rfl
def laws_FnExactPutChain.T16 : Bool × List (List Nat × List Nat) := (true, [([], []), ([], []), ([1], [1]), ([0, 2, 2], [0, 2]), ([3], [3])])
def laws_FnExactPutChain.B16 : List Nat := [0, 0, 2, 7, 15]
theorem laws_FnExactPutChain.tab16 : rtab .any (opsOf Try.f6 16) = laws_FnExactPutChain.T16 := by kernel_rfl
theorem laws_FnExactPutChain.bits16 : waitsOk laws_FnExactPutChain.T16.2 laws_FnExactPutChain.B16 = true := by kernel_rfl
def laws_FnExactPutChain.T31 : Bool × List (List Nat × List Nat) := (true, [([], []), ([0], [0]), ([], []), ([2, 1], [2]), ([1, 3, 3], [1, 3]), ([4], [4]), ([5], [5]), ([5], [5]), ([], []), ([8, 6, 4, 0, 1, 2, 3, 4, 5, 6, 8], [6, 8]), ([7, 9, 0, 1, 2, 3, 4, 5, 6, 7, 8, 9], [7])])
def laws_FnExactPutChain.B31 : List Nat := [0, 1, 0, 7, 15, 31, 63, 63, 0, 383, 1023]
theorem laws_FnExactPutChain.tab31 : rtab .any (opsOf Try.f6 31) = laws_FnExactPutChain.T31 := by kernel_rfl
theorem laws_FnExactPutChain.bits31 : waitsOk laws_FnExactPutChain.T31.2 laws_FnExactPutChain.B31 = true := by kernel_rfl
set_option maxHeartbeats 16000000 in
set_option maxRecDepth 100000 in
theorem laws_FnExactPutChain.early1 (k : Nat) (a0_0 : Int) (A0_1 : Option Addr) (c0_1 : Nat) (l0_1 : List S62) (A1_0 : Option Addr) (c1_0 : Nat) (l1_0 : List S113) (a1_1 : Int) (a1_2 : Int) (a1_3 : ByteArray) (w : World) (hr0_1 : Kd.C k62 w A0_1 l0_1.length l0_1) (hc0_1 : l0_1.length ≤ c0_1) (hr1_0 : Kd.C k113 w A1_0 l1_0.length l1_0) (hc1_0 : l1_0.length ≤ c1_0) (q1 : Int)
  (F1 : Aside0 (laws_szChain.f k a0_0 l0_1 1048576 = some q1))
  (K0 : Aside0 (decide (q1 < 0) = true)) :
  Calls Try.prog 6 #[.agg #[.int .i64 a0_0, .slice A0_1 l0_1.length c0_1], .agg #[.slice A1_0 l1_0.length c1_0, .int .i64 a1_1, .int .i64 a1_2, .string a1_3]] w fun e w' => e = .returned (.bool true) ∧ Below w.heap.size w w' := by
 have Hc0_1 := aM hc0_1
 have Hc1_0 := aM hc1_0
 have HR0_1 := aM hr0_1
 have HR1_0 := aM hr1_0
 have G := (Gs.below w).add (Gs.top (Nat.le_refl w.heap.size))
 clear hc0_1 hc1_0 hr0_1 hr1_0
 go_enter Try.func6, Try.ntmps6
 go_upto_region 1 with (first | ((with_reducible refine gate_dst (N := 2) rfl ?_); refine box_event ?hg (N := 2) ?hd (cs := #[.int .i64 a0_0, .slice A0_1 l0_1.length c0_1]) (t := 35) ?hr ?_; (case hd => rfl); (case hg => rfl); (case hr => first | (go_simp; done) | (go_simp; rfl)); intro g2 hg w2 hbox hb; have Hg2 := aM (show w.heap.size ≤ g2 from hg ▸ G.at_.2); have G1 := (((G.go hb).add (Gs.ofBox2 hbox)).add (Gs.top (Nat.succ_le_of_lt (blk_lt hbox)))); clear hb hbox hg G; have G := G1; clear G1) | ((with_reducible refine gate_dst (N := 3) rfl ?_); refine box_event ?hg (N := 3) ?hd (cs := #[.slice A1_0 l1_0.length c1_0, .int .i64 a1_1, .int .i64 a1_2, .string a1_3]) (t := 62) ?hr ?_; (case hd => rfl); (case hg => rfl); (case hr => first | (go_simp; done) | (go_simp; rfl)); intro g3 hg w2 hbox hb; have Hg3 := aM (show g2 + 1 ≤ g3 from hg ▸ G.at_.2); have G1 := (((G.go hb).add (Gs.ofBox4 hbox)).add (Gs.top (Nat.succ_le_of_lt (blk_lt hbox)))); clear hb hbox hg G; have G := G1; clear G1))
 go_upto_region 2 with (fail)
 obtain ⟨zg2_0, zg2_1⟩ := G.at_.1.1.1.2
 go_upto_region 3 with (first | ((with_reducible refine gate_callee (f := 19) rfl ?_); refine goesL_ (some 19) rfl rfl Try.func19 (by kernel_rfl) rfl #[.agg #[.int .i64 a0_0, .slice A0_1 l0_1.length c0_1], .int .i64 1048576] rfl (by (try simp only [List.map_toArray, List.map_cons, List.map_nil]); first | done | rfl) ?_; refine (laws_szChain.calls k a0_0 _ _ l0_1 1048576 q1 _ (Kd.C_below HR0_1.out G.at_.1.1.1.1.1) Hc0_1.out F1.out).mono ?_; rintro e w1 ⟨rfl, hb⟩; refine ⟨_, rfl, ?_⟩; have G1 := (G.go hb); clear G hb; have G := G1; clear G1))
 (try clear zg2_0)
 (try clear zg2_1)
 have hk0_ := K0.out
 try go_wp2
 try go_wp2
 go_ret
 exact ⟨rfl, G.at_.1.1.1.1.1⟩
set_option maxHeartbeats 16000000 in
set_option maxRecDepth 100000 in
theorem laws_FnExactPutChain.early2 (k : Nat) (a0_0 : Int) (A0_1 : Option Addr) (c0_1 : Nat) (l0_1 : List S62) (A1_0 : Option Addr) (c1_0 : Nat) (l1_0 : List S113) (a1_1 : Int) (a1_2 : Int) (a1_3 : ByteArray) (w : World) (hr0_1 : Kd.C k62 w A0_1 l0_1.length l0_1) (hc0_1 : l0_1.length ≤ c0_1) (hr1_0 : Kd.C k113 w A1_0 l1_0.length l1_0) (hc1_0 : l1_0.length ≤ c1_0) (q1 : Int) (q2 : Int)
  (F1 : Aside0 (laws_szChain.f k a0_0 l0_1 1048576 = some q1))
  (F2 : Aside0 (laws_szAlarm.f k l1_0 a1_1 a1_2 a1_3 q1 = some q2))
  (K0 : Aside0 (decide (q1 < 0) = false))
  (K1 : Aside0 (decide (q2 < 0) = true)) :
  Calls Try.prog 6 #[.agg #[.int .i64 a0_0, .slice A0_1 l0_1.length c0_1], .agg #[.slice A1_0 l1_0.length c1_0, .int .i64 a1_1, .int .i64 a1_2, .string a1_3]] w fun e w' => e = .returned (.bool true) ∧ Below w.heap.size w w' := by
 have Hc0_1 := aM hc0_1
 have Hc1_0 := aM hc1_0
 have HR0_1 := aM hr0_1
 have HR1_0 := aM hr1_0
 have G := (Gs.below w).add (Gs.top (Nat.le_refl w.heap.size))
 clear hc0_1 hc1_0 hr0_1 hr1_0
 go_enter Try.func6, Try.ntmps6
 go_upto_region 1 with (first | ((with_reducible refine gate_dst (N := 2) rfl ?_); refine box_event ?hg (N := 2) ?hd (cs := #[.int .i64 a0_0, .slice A0_1 l0_1.length c0_1]) (t := 35) ?hr ?_; (case hd => rfl); (case hg => rfl); (case hr => first | (go_simp; done) | (go_simp; rfl)); intro g2 hg w2 hbox hb; have Hg2 := aM (show w.heap.size ≤ g2 from hg ▸ G.at_.2); have G1 := (((G.go hb).add (Gs.ofBox2 hbox)).add (Gs.top (Nat.succ_le_of_lt (blk_lt hbox)))); clear hb hbox hg G; have G := G1; clear G1) | ((with_reducible refine gate_dst (N := 3) rfl ?_); refine box_event ?hg (N := 3) ?hd (cs := #[.slice A1_0 l1_0.length c1_0, .int .i64 a1_1, .int .i64 a1_2, .string a1_3]) (t := 62) ?hr ?_; (case hd => rfl); (case hg => rfl); (case hr => first | (go_simp; done) | (go_simp; rfl)); intro g3 hg w2 hbox hb; have Hg3 := aM (show g2 + 1 ≤ g3 from hg ▸ G.at_.2); have G1 := (((G.go hb).add (Gs.ofBox4 hbox)).add (Gs.top (Nat.succ_le_of_lt (blk_lt hbox)))); clear hb hbox hg G; have G := G1; clear G1))
 go_upto_region 2 with (fail)
 obtain ⟨zg2_0, zg2_1⟩ := G.at_.1.1.1.2
 go_upto_region 3 with (first | ((with_reducible refine gate_callee (f := 19) rfl ?_); refine goesL_ (some 19) rfl rfl Try.func19 (by kernel_rfl) rfl #[.agg #[.int .i64 a0_0, .slice A0_1 l0_1.length c0_1], .int .i64 1048576] rfl (by (try simp only [List.map_toArray, List.map_cons, List.map_nil]); first | done | rfl) ?_; refine (laws_szChain.calls k a0_0 _ _ l0_1 1048576 q1 _ (Kd.C_below HR0_1.out G.at_.1.1.1.1.1) Hc0_1.out F1.out).mono ?_; rintro e w1 ⟨rfl, hb⟩; refine ⟨_, rfl, ?_⟩; have G1 := (G.go hb); clear G hb; have G := G1; clear G1))
 (try clear zg2_0)
 (try clear zg2_1)
 have hk0_ := K0.out
 go_upto_region 5 with (fail)
 obtain ⟨zg3_0, zg3_1, zg3_2, zg3_3⟩ := G.at_.1.2
 go_upto_region 6 with (first | ((with_reducible refine gate_callee (f := 35) rfl ?_); refine goesL_ (some 24) rfl rfl Try.func35 (by kernel_rfl) rfl #[.agg #[.slice A1_0 l1_0.length c1_0, .int .i64 a1_1, .int .i64 a1_2, .string a1_3], .int .i64 q1] rfl (by (try simp only [List.map_toArray, List.map_cons, List.map_nil]); first | done | rfl) ?_; refine (laws_szAlarm.calls k _ _ l1_0 a1_1 a1_2 a1_3 q1 q2 _ (Kd.C_below HR1_0.out G.at_.1.1.1.1.1) Hc1_0.out F2.out).mono ?_; rintro e w1 ⟨rfl, hb⟩; refine ⟨_, rfl, ?_⟩; have G1 := (G.go hb); clear G hb; have G := G1; clear G1))
 (try clear zg3_0)
 (try clear zg3_1)
 (try clear zg3_2)
 (try clear zg3_3)
 have hk1_ := K1.out
 try go_wp2
 try go_wp2
 go_ret
 exact ⟨rfl, G.at_.1.1.1.1.1⟩
set_option maxHeartbeats 16000000 in
set_option maxRecDepth 100000 in
theorem laws_FnExactPutChain.way (k : Nat) (a0_0 : Int) (A0_1 : Option Addr) (c0_1 : Nat) (l0_1 : List S62) (A1_0 : Option Addr) (c1_0 : Nat) (l1_0 : List S113) (a1_1 : Int) (a1_2 : Int) (a1_3 : ByteArray) (w : World) (hr0_1 : Kd.C k62 w A0_1 l0_1.length l0_1) (hc0_1 : l0_1.length ≤ c0_1) (hr1_0 : Kd.C k113 w A1_0 l1_0.length l1_0) (hc1_0 : l1_0.length ≤ c1_0) (q1 : Int) (q2 : Int) (fc : Int) (m0 : List (S26)) (la : List (S89)) (sa : Int) (ea : Int) (na : ByteArray) (fo : Int) (mo : List (S26)) (fr : Bool) (e1 : Int) (m1 : List (S26)) (e2 : Int) (lm : List (S89)) (e3 : Int) (m2 : List (S26))
  (F1 : Aside0 (laws_szChain.f k a0_0 l0_1 1048576 = some q1))
  (F2 : Aside0 (laws_szAlarm.f k l1_0 a1_1 a1_2 a1_3 q1 = some q2))
  (F3 : Aside0 (laws_toChain.f k a0_0 l0_1 = some (fc, m0)))
  (F4 : Aside0 (laws_toAlarm.f k l1_0 a1_1 a1_2 a1_3 = some (la, sa, ea, na)))
  (F5 : Aside0 (spec_PutChain.f k fc m0 la sa ea na = some (fo, mo, fr)))
  (F6 : Aside0 (impl_PutChain.f k fc m0 la sa ea na = some (fo, mo, fr)))
  (F7 : Aside0 (laws_eqChain.f k fo mo fo mo = some true))
  (F8 : Aside0 (laws_eqChain.f k fc m0 fc m0 = some true))
  (F9 : Aside0 (laws_eqAlarm.f k la sa ea na la sa ea na = some true))
  (F10 : Aside0 (laws_markChain.f k fc m0 1 = some (e1, m1)))
  (F11 : Aside0 (laws_markAlarm.f k la sa ea na e1 = some (e2, lm)))
  (F12 : Aside0 (laws_markChain.f k fo mo 1 = some (e3, m2)))
  (F13 : Aside0 (laws_heldChain.f k fo m2 1 = some e3))
  (K0 : Aside0 (decide (q1 < 0) = false))
  (K1 : Aside0 (decide (q2 < 0) = false))
  (K2 : Aside0 ((fr != fr) = false))
  (K3 : Aside0 (decide (e2 < 0) = false))
  (K4 : Aside0 (decide (e3 < 0) = false))
  (K5 : Aside0 ((e3 != e3) = false)) :
  Calls Try.prog 6 #[.agg #[.int .i64 a0_0, .slice A0_1 l0_1.length c0_1], .agg #[.slice A1_0 l1_0.length c1_0, .int .i64 a1_1, .int .i64 a1_2, .string a1_3]] w fun e w' => e = .returned (.bool true) ∧ Below w.heap.size w w' := by
 have Hc0_1 := aM hc0_1
 have Hc1_0 := aM hc1_0
 have HR0_1 := aM hr0_1
 have HR1_0 := aM hr1_0
 have G := (Gs.below w).add (Gs.top (Nat.le_refl w.heap.size))
 clear hc0_1 hc1_0 hr0_1 hr1_0
 go_enter Try.func6, Try.ntmps6
 go_upto_region 1 with (first | ((with_reducible refine gate_dst (N := 2) rfl ?_); refine box_event ?hg (N := 2) ?hd (cs := #[.int .i64 a0_0, .slice A0_1 l0_1.length c0_1]) (t := 35) ?hr ?_; (case hd => rfl); (case hg => rfl); (case hr => first | (go_simp; done) | (go_simp; rfl)); intro g2 hg w2 hbox hb; have Hg2 := aM (show w.heap.size ≤ g2 from hg ▸ G.at_.2); have G1 := (((G.go hb).add (Gs.ofBox2 hbox)).add (Gs.top (Nat.succ_le_of_lt (blk_lt hbox)))); clear hb hbox hg G; have G := G1; clear G1) | ((with_reducible refine gate_dst (N := 3) rfl ?_); refine box_event ?hg (N := 3) ?hd (cs := #[.slice A1_0 l1_0.length c1_0, .int .i64 a1_1, .int .i64 a1_2, .string a1_3]) (t := 62) ?hr ?_; (case hd => rfl); (case hg => rfl); (case hr => first | (go_simp; done) | (go_simp; rfl)); intro g3 hg w2 hbox hb; have Hg3 := aM (show g2 + 1 ≤ g3 from hg ▸ G.at_.2); have G1 := (((G.go hb).add (Gs.ofBox4 hbox)).add (Gs.top (Nat.succ_le_of_lt (blk_lt hbox)))); clear hb hbox hg G; have G := G1; clear G1))
 go_upto_region 2 with (fail)
 obtain ⟨zg2_0, zg2_1⟩ := G.at_.1.1.1.2
 go_upto_region 3 with (first | ((with_reducible refine gate_callee (f := 19) rfl ?_); refine goesL_ (some 19) rfl rfl Try.func19 (by kernel_rfl) rfl #[.agg #[.int .i64 a0_0, .slice A0_1 l0_1.length c0_1], .int .i64 1048576] rfl (by (try simp only [List.map_toArray, List.map_cons, List.map_nil]); first | done | rfl) ?_; refine (laws_szChain.calls k a0_0 _ _ l0_1 1048576 q1 _ (Kd.C_below HR0_1.out G.at_.1.1.1.1.1) Hc0_1.out F1.out).mono ?_; rintro e w1 ⟨rfl, hb⟩; refine ⟨_, rfl, ?_⟩; have G1 := (G.go hb); clear G hb; have G := G1; clear G1))
 (try clear zg2_0)
 (try clear zg2_1)
 have hk0_ := K0.out
 go_upto_region 5 with (fail)
 obtain ⟨zg3_0, zg3_1, zg3_2, zg3_3⟩ := G.at_.1.2
 go_upto_region 6 with (first | ((with_reducible refine gate_callee (f := 35) rfl ?_); refine goesL_ (some 24) rfl rfl Try.func35 (by kernel_rfl) rfl #[.agg #[.slice A1_0 l1_0.length c1_0, .int .i64 a1_1, .int .i64 a1_2, .string a1_3], .int .i64 q1] rfl (by (try simp only [List.map_toArray, List.map_cons, List.map_nil]); first | done | rfl) ?_; refine (laws_szAlarm.calls k _ _ l1_0 a1_1 a1_2 a1_3 q1 q2 _ (Kd.C_below HR1_0.out G.at_.1.1.1.1.1) Hc1_0.out F2.out).mono ?_; rintro e w1 ⟨rfl, hb⟩; refine ⟨_, rfl, ?_⟩; have G1 := (G.go hb); clear G hb; have G := G1; clear G1))
 (try clear zg3_0)
 (try clear zg3_1)
 (try clear zg3_2)
 (try clear zg3_3)
 have hk1_ := K1.out
 go_upto_region 8 with (fail)
 refine Gs.hide G (fun Ψ GP hP hQ => ?_)
 clear G
 refine regD [9] GP (by kernel_rfl) rfl laws_FnExactPutChain.tab8 laws_FnExactPutChain.bits8 (fun wr hbr GV HT_ HW_ => ?_)
 clear GP hbr
 have HB := aM (Below.refl wr.heap.size wr)
 refine (tk 0 (some 28) 1 ?_ ?_ HT_ HW_ rfl rfl (by kernel_rfl) (fun _ _ _ h => h) (GV.go HB.out).at_ ?_ ?_ ?_ (tk 2 (some 30) 5 ?_ ?_ HT_ HW_ rfl rfl (by kernel_rfl) (fun _ _ _ h => h) (GV.go HB.out).at_ ?_ ?_ ?_ ?_))
 all_goals first | (rintro w' hp_; obtain ⟨⟨⟨⟨⟨-, -⟩, ⟨s0, s1⟩⟩, -⟩, ⟨s2, s3, s4, s5⟩⟩, -⟩ := hP _ hp_; go_simp; with_reducible rfl) | (intro w'; go_simp; with_reducible rfl) | (simp only [Act.put, List.setIfInBounds_toArray, List.set_cons_zero, List.set_cons_succ, i64_w, i32_w]; rfl) | rfl | skip
 refine join_ (σ := Option Addr × Nat × Option Addr × Nat × Option Addr × Nat × Nat × Nat × Nat × Nat) 2 (bz 11 511) (fun s_ => match s_ with | (A29_0, c29_0, A31_0, c31_0, A32_0, c32_0, g6, loA32_0, hiA32_0, T8) => [(29, .agg #[.int .i64 fc, .slice A29_0 m0.length c29_0]), (31, .agg #[.slice A31_0 la.length c31_0, .int .i64 sa, .int .i64 ea, .string na]), (32, .tuple #[.agg #[.int .i64 fo, .slice A32_0 mo.length c32_0], .bool fr]), (6, .pointer (some ⟨g6, 0, none⟩)), (27, .tuple #[.agg #[.int .i64 fo, .slice A32_0 mo.length c32_0], .bool fr]), (33, .agg #[.int .i64 fo, .slice A32_0 mo.length c32_0]), (34, .bool fr)]) (fun s_ W_ => match s_ with | (A29_0, c29_0, A31_0, c31_0, A32_0, c32_0, g6, loA32_0, hiA32_0, T8) => Below wr.heap.size wr W_ ∧ Kd.S k26 26 W_ w.heap.size (Iv loA32_0 hiA32_0) (.slice A32_0 mo.length c32_0) mo ∧ W_.heap[g6]? = some (.cells #[.int .i64 0, .slice none 0 0] 39 (0, 0)) ∧ (wr.heap.size ≤ g6 ∧ (hiA32_0 ≤ g6 ∨ g6 + 1 ≤ loA32_0)) ∧ (g3 + 1 ≤ loA32_0 ∧ loA32_0 ≤ hiA32_0 ∧ hiA32_0 ≤ T8) ∧ (g3 + 1 ≤ g6 ∧ g6 + 1 ≤ T8) ∧ T8 ≤ W_.heap.size) ?_ ?_
 rotate_left
 · intro J
   refine tcD 1 29 7 8 6 261 (fun g_ => .pointer (some ⟨g_, 0, none⟩)) #[.int .i64 0, .slice none 0 0] 39 HT_ rfl rfl rfl rfl (by decide) (by decide) (by kernel_rfl) Try.func21 (by kernel_rfl) rfl rfl #[.agg #[.int .i64 a0_0, .slice A0_1 l0_1.length c0_1]] (by rfl) (by (try simp only [List.map_toArray, List.map_cons, List.map_nil]); first | done | rfl) (GV.go HB.out) (by rfl) (by first | (go_simp; done) | (go_simp; rfl)) ?_ ?_
   · skip
     refine (laws_toChain.calls k a0_0 _ _ l0_1 fc m0 _ (Kd.C_below HR0_1.out (hP _ (GV.go HB.out).at_).1.1.1.1.1) Hc0_1.out F3.out).mono ?_
     rintro e w1 ⟨v29_0, rfl, ho29_0, hb⟩
     obtain ⟨A29_0, c29_0, rfl, _, _⟩ := Kd.S_reads ho29_0
     have hTop := (hP _ (GV.go HB.out).at_).2
     obtain ⟨loA29_0, hiA29_0, hOA29_0, hTA29_0, hSA29_0⟩ := newS (Nat.le_refl _) (hP _ (GV.go HB.out).at_).1.1.1.1.1 hb ho29_0
     (try replace XA31_0 := XA31_0.go hb)
     (try replace XA32_0 := XA32_0.go hb)
     have XA29_0 := Gs.ownS hSA29_0
     have OA29_0 := aM (And.intro (Nat.le_trans hTop hOA29_0.1) hOA29_0.2)
     (try clear HTI)
     have HTI := aM hTA29_0
     clear hTop
     have HB1 := aM (below_step HB.out hb); clear HB hb hOA29_0 hTA29_0 hSA29_0 ho29_0; have HB := HB1; clear HB1
     refine ⟨_, rfl, (GV.go HB.out).at_, ?_⟩; intro a' ha; simp only [Act.put, List.setIfInBounds_toArray, List.set_cons_zero, List.set_cons_succ, i64_w, i32_w] at ha; subst ha
     refine tcD 3 31 15 8 6 263 (fun g_ => .pointer (some ⟨g_, 0, none⟩)) #[.int .i64 0, .slice none 0 0] 39 HT_ rfl rfl rfl rfl (by decide) (by decide) (by kernel_rfl) Try.func37 (by kernel_rfl) rfl rfl #[.agg #[.slice A1_0 l1_0.length c1_0, .int .i64 a1_1, .int .i64 a1_2, .string a1_3]] (by rfl) (by (try simp only [List.map_toArray, List.map_cons, List.map_nil]); first | done | rfl) (GV.go HB.out) (by rfl) (by first | (go_simp; done) | (go_simp; rfl)) ?_ ?_
     · skip
       refine (laws_toAlarm.calls k _ _ l1_0 a1_1 a1_2 a1_3 la sa ea na _ (Kd.C_below HR1_0.out (hP _ (GV.go HB.out).at_).1.1.1.1.1) Hc1_0.out F4.out).mono ?_
       rintro e w1 ⟨v31_0, rfl, ho31_0, hb⟩
       obtain ⟨A31_0, c31_0, rfl, _, _⟩ := Kd.R_reads ho31_0
       have hTop := (hP _ (GV.go HB.out).at_).2
       obtain ⟨loA31_0, hiA31_0, hOA31_0, hTA31_0, hSA31_0⟩ := newR (Nat.le_refl _) (hP _ (GV.go HB.out).at_).1.1.1.1.1 hb ho31_0
       (try replace XA29_0 := XA29_0.go hb)
       (try replace XA32_0 := XA32_0.go hb)
       have XA31_0 := Gs.ownR hSA31_0
       have OA31_0 := aM (And.intro (Nat.le_trans hTop hOA31_0.1) hOA31_0.2)
       (try clear HTI)
       have HTI := aM hTA31_0
       clear hTop
       have HB1 := aM (below_step HB.out hb); clear HB hb hOA31_0 hTA31_0 hSA31_0 ho31_0; have HB := HB1; clear HB1
       refine ⟨_, rfl, (GV.go HB.out).at_, ?_⟩; intro a' ha; simp only [Act.put, List.setIfInBounds_toArray, List.set_cons_zero, List.set_cons_succ, i64_w, i32_w] at ha; subst ha
       refine tcD 4 32 31 8 6 271 (fun g_ => .pointer (some ⟨g_, 0, none⟩)) #[.int .i64 0, .slice none 0 0] 39 HT_ rfl rfl rfl rfl (by decide) (by decide) (by kernel_rfl) Try.func36 (by kernel_rfl) rfl rfl #[.agg #[.int .i64 fc, .slice A29_0 m0.length c29_0], .agg #[.slice A31_0 la.length c31_0, .int .i64 sa, .int .i64 ea, .string na]] (by rfl) (by (try simp only [List.map_toArray, List.map_cons, List.map_nil]); first | done | rfl) (GV.go HB.out) (by rfl) (by first | (go_simp; done) | (go_simp; rfl)) ?_ ?_
       · skip
         refine (spec_PutChain.calls k fc _ _ m0 _ _ la sa ea na fo mo fr _ (Kd.S_reads' XA29_0.at_).2.2 ((Kd.S_reads' XA29_0.at_).1 ▸ (Kd.S_reads' XA29_0.at_).2.1) (Kd.R_reads' XA31_0.at_).2.2 ((Kd.R_reads' XA31_0.at_).1 ▸ (Kd.R_reads' XA31_0.at_).2.1) F5.out).mono ?_
         rintro e w1 ⟨v32_0, rfl, ho32_0, hb⟩
         obtain ⟨A32_0, c32_0, rfl, _, _⟩ := Kd.S_reads ho32_0
         have hTop := (hP _ (GV.go HB.out).at_).2
         obtain ⟨loA32_0, hiA32_0, hOA32_0, hTA32_0, hSA32_0⟩ := newS (Nat.le_refl _) (hP _ (GV.go HB.out).at_).1.1.1.1.1 hb ho32_0
         (try replace XA29_0 := XA29_0.go hb)
         (try replace XA31_0 := XA31_0.go hb)
         have XA32_0 := Gs.ownS hSA32_0
         have OA32_0 := aM (And.intro (Nat.le_trans hTop hOA32_0.1) hOA32_0.2)
         (try clear HTI)
         have HTI := aM hTA32_0
         clear hTop
         have HB1 := aM (below_step HB.out hb); clear HB hb hOA32_0 hTA32_0 hSA32_0 ho32_0; have HB := HB1; clear HB1
         refine ⟨_, rfl, (GV.go HB.out).at_, ?_⟩; intro a' ha; simp only [Act.put, List.setIfInBounds_toArray, List.set_cons_zero, List.set_cons_succ, i64_w, i32_w] at ha; subst ha
         refine (pu 5 (some 27) 63 ?_ ?_ HT_ rfl rfl (by kernel_rfl) (fun _ _ _ h => h) ?_ ?_ ?_ (pu 6 (some 33) 127 ?_ ?_ HT_ rfl rfl (by kernel_rfl) (fun _ _ _ h => h) ?_ ?_ ?_ (pu 7 (some 34) 255 ?_ ?_ HT_ rfl rfl (by kernel_rfl) (fun _ _ _ h => h) ?_ ?_ ?_ ?_)))
         all_goals first | (rintro w' hp_; obtain ⟨⟨⟨⟨⟨-, -⟩, ⟨s0, s1⟩⟩, -⟩, ⟨s2, s3, s4, s5⟩⟩, -⟩ := hP _ hp_; go_simp; with_reducible rfl) | (intro w'; go_simp; with_reducible rfl) | (simp only [Act.put, List.setIfInBounds_toArray, List.set_cons_zero, List.set_cons_succ, i64_w, i32_w]; rfl) | rfl | skip
         refine raD 8 6 511 (fun g_ => .pointer (some ⟨g_, 0, none⟩)) #[.int .i64 0, .slice none 0 0] 39 HT_ rfl rfl (by decide) (by kernel_rfl) (GV.go HB.out) (by rfl) (by first | (go_simp; done) | (go_simp; rfl)) (fun g6 w2 hg hx hb _ a' ha => ?_)
         replace XA29_0 := XA29_0.go hb
         replace XA31_0 := XA31_0.go hb
         replace XA32_0 := XA32_0.go hb
         have HGW := aM (show wr.heap.size ≤ g6 ∧ g3 + 1 ≤ g6 from by rw [hg]; exact ⟨HB.out.size, (hP _ (GV.go HB.out).at_).2⟩)
         have HDI := aM (show hiA32_0 ≤ g6 ∨ g6 + 1 ≤ loA32_0 from Or.inl (by rw [hg]; exact HTI.out))
         have HTI1 := aM (Nat.le_trans HTI.out hb.size); clear HTI; have HTI := HTI1; clear HTI1
         have HB1 := aM (below_step HB.out hb); clear HB; have HB := HB1; clear HB1; have BK := aM hx; clear hx hb
         clear hg; simp only [Act.put, List.setIfInBounds_toArray, List.set_cons_zero, List.set_cons_succ, i64_w, i32_w] at ha; subst ha
         have hbk := blk_lt BK.out
         have hfin := XA32_0.at_
         have hg0 := HGW.out
         have hOO := OA32_0.out
         have hTT := HTI.out
         exact norm_ (by simp only [putAll, Act.put, List.setIfInBounds_toArray, List.set_cons_zero, List.set_cons_succ]; first | done | rfl) (J (A29_0, c29_0, A31_0, c31_0, A32_0, c32_0, g6, loA32_0, hiA32_0, _) _ ⟨HB.out, hfin, BK.out, ⟨hg0.1, HDI.out⟩, ⟨hOO.1, hOO.2, hTT⟩, ⟨hg0.2, hbk⟩, Nat.le_refl _⟩)
       · skip
         intro g6 w2 hg hx hb a' ha
         replace XA29_0 := XA29_0.go hb
         replace XA31_0 := XA31_0.go hb
         have HGW := aM (show wr.heap.size ≤ g6 ∧ g3 + 1 ≤ g6 from by rw [hg]; exact ⟨HB.out.size, (hP _ (GV.go HB.out).at_).2⟩)
         clear HTI
         have HB1 := aM (below_step HB.out hb); clear HB; have HB := HB1; clear HB1; have BK := aM hx; clear hx hb
         clear hg; simp only [Act.put, List.setIfInBounds_toArray, List.set_cons_zero, List.set_cons_succ, i64_w, i32_w] at ha; subst ha
         refine rcD 4 32 287 HT_ rfl rfl (by decide) (by kernel_rfl) Try.func36 (by kernel_rfl) rfl rfl #[.agg #[.int .i64 fc, .slice A29_0 m0.length c29_0], .agg #[.slice A31_0 la.length c31_0, .int .i64 sa, .int .i64 ea, .string na]] (by rfl) (by (try simp only [List.map_toArray, List.map_cons, List.map_nil]); first | done | rfl) ?_
         refine (spec_PutChain.calls k fc _ _ m0 _ _ la sa ea na fo mo fr _ (Kd.S_reads' XA29_0.at_).2.2 ((Kd.S_reads' XA29_0.at_).1 ▸ (Kd.S_reads' XA29_0.at_).2.1) (Kd.R_reads' XA31_0.at_).2.2 ((Kd.R_reads' XA31_0.at_).1 ▸ (Kd.R_reads' XA31_0.at_).2.1) F5.out).mono ?_
         rintro e w1 ⟨v32_0, rfl, ho32_0, hb⟩
         obtain ⟨A32_0, c32_0, rfl, _, _⟩ := Kd.S_reads ho32_0
         have hTop := (hP _ (GV.go HB.out).at_).2
         obtain ⟨loA32_0, hiA32_0, hOA32_0, hTA32_0, hSA32_0⟩ := newS (Nat.le_refl _) (hP _ (GV.go HB.out).at_).1.1.1.1.1 hb ho32_0
         (try replace XA29_0 := XA29_0.go hb)
         (try replace XA31_0 := XA31_0.go hb)
         have XA32_0 := Gs.ownS hSA32_0
         have OA32_0 := aM (And.intro (Nat.le_trans hTop hOA32_0.1) hOA32_0.2)
         (try clear HTI)
         have HTI := aM hTA32_0
         clear hTop
         (try clear HDI)
         have HDI := aM (show hiA32_0 ≤ g6 ∨ g6 + 1 ≤ loA32_0 from Or.inr (Nat.le_trans (Nat.succ_le_of_lt (blk_lt BK.out)) hOA32_0.1))
         have BK1 := aM (blk_below BK.out hb); clear BK; have BK := BK1; clear BK1
         have HB1 := aM (below_step HB.out hb); clear HB hb hOA32_0 hTA32_0 hSA32_0 ho32_0; have HB := HB1; clear HB1
         refine ⟨_, rfl, (GV.go HB.out).at_, ?_⟩; intro a' ha; simp only [Act.put, List.setIfInBounds_toArray, List.set_cons_zero, List.set_cons_succ, i64_w, i32_w] at ha; subst ha
         refine (pu 5 (some 27) 319 ?_ ?_ HT_ rfl rfl (by kernel_rfl) (fun _ _ _ h => h) ?_ ?_ ?_ (pu 6 (some 33) 383 ?_ ?_ HT_ rfl rfl (by kernel_rfl) (fun _ _ _ h => h) ?_ ?_ ?_ (pu 7 (some 34) 511 ?_ ?_ HT_ rfl rfl (by kernel_rfl) (fun _ _ _ h => h) ?_ ?_ ?_ ?_)))
         all_goals first | (rintro w' hp_; obtain ⟨⟨⟨⟨⟨-, -⟩, ⟨s0, s1⟩⟩, -⟩, ⟨s2, s3, s4, s5⟩⟩, -⟩ := hP _ hp_; go_simp; with_reducible rfl) | (intro w'; go_simp; with_reducible rfl) | (simp only [Act.put, List.setIfInBounds_toArray, List.set_cons_zero, List.set_cons_succ, i64_w, i32_w]; rfl) | rfl | skip
         have hbk := blk_lt BK.out
         have hfin := XA32_0.at_
         have hg0 := HGW.out
         have hOO := OA32_0.out
         have hTT := HTI.out
         exact norm_ (by simp only [putAll, Act.put, List.setIfInBounds_toArray, List.set_cons_zero, List.set_cons_succ]; first | done | rfl) (J (A29_0, c29_0, A31_0, c31_0, A32_0, c32_0, g6, loA32_0, hiA32_0, _) _ ⟨HB.out, hfin, BK.out, ⟨hg0.1, HDI.out⟩, ⟨hOO.1, hOO.2, hTT⟩, ⟨hg0.2, hbk⟩, Nat.le_refl _⟩)
     · skip
       intro g6 w2 hg hx hb a' ha
       replace XA29_0 := XA29_0.go hb
       have HGW := aM (show wr.heap.size ≤ g6 ∧ g3 + 1 ≤ g6 from by rw [hg]; exact ⟨HB.out.size, (hP _ (GV.go HB.out).at_).2⟩)
       clear HTI
       have HB1 := aM (below_step HB.out hb); clear HB; have HB := HB1; clear HB1; have BK := aM hx; clear hx hb
       clear hg; simp only [Act.put, List.setIfInBounds_toArray, List.set_cons_zero, List.set_cons_succ, i64_w, i32_w] at ha; subst ha
       refine rcD 3 31 271 HT_ rfl rfl (by decide) (by kernel_rfl) Try.func37 (by kernel_rfl) rfl rfl #[.agg #[.slice A1_0 l1_0.length c1_0, .int .i64 a1_1, .int .i64 a1_2, .string a1_3]] (by rfl) (by (try simp only [List.map_toArray, List.map_cons, List.map_nil]); first | done | rfl) ?_
       refine (laws_toAlarm.calls k _ _ l1_0 a1_1 a1_2 a1_3 la sa ea na _ (Kd.C_below HR1_0.out (hP _ (GV.go HB.out).at_).1.1.1.1.1) Hc1_0.out F4.out).mono ?_
       rintro e w1 ⟨v31_0, rfl, ho31_0, hb⟩
       obtain ⟨A31_0, c31_0, rfl, _, _⟩ := Kd.R_reads ho31_0
       have hTop := (hP _ (GV.go HB.out).at_).2
       obtain ⟨loA31_0, hiA31_0, hOA31_0, hTA31_0, hSA31_0⟩ := newR (Nat.le_refl _) (hP _ (GV.go HB.out).at_).1.1.1.1.1 hb ho31_0
       (try replace XA29_0 := XA29_0.go hb)
       (try replace XA32_0 := XA32_0.go hb)
       have XA31_0 := Gs.ownR hSA31_0
       have OA31_0 := aM (And.intro (Nat.le_trans hTop hOA31_0.1) hOA31_0.2)
       (try clear HTI)
       have HTI := aM hTA31_0
       clear hTop
       (try clear HDI)
       have HDI := aM (show hiA31_0 ≤ g6 ∨ g6 + 1 ≤ loA31_0 from Or.inr (Nat.le_trans (Nat.succ_le_of_lt (blk_lt BK.out)) hOA31_0.1))
       have BK1 := aM (blk_below BK.out hb); clear BK; have BK := BK1; clear BK1
       have HB1 := aM (below_step HB.out hb); clear HB hb hOA31_0 hTA31_0 hSA31_0 ho31_0; have HB := HB1; clear HB1
       refine ⟨_, rfl, (GV.go HB.out).at_, ?_⟩; intro a' ha; simp only [Act.put, List.setIfInBounds_toArray, List.set_cons_zero, List.set_cons_succ, i64_w, i32_w] at ha; subst ha
       refine rcD 4 32 287 HT_ rfl rfl (by decide) (by kernel_rfl) Try.func36 (by kernel_rfl) rfl rfl #[.agg #[.int .i64 fc, .slice A29_0 m0.length c29_0], .agg #[.slice A31_0 la.length c31_0, .int .i64 sa, .int .i64 ea, .string na]] (by rfl) (by (try simp only [List.map_toArray, List.map_cons, List.map_nil]); first | done | rfl) ?_
       refine (spec_PutChain.calls k fc _ _ m0 _ _ la sa ea na fo mo fr _ (Kd.S_reads' XA29_0.at_).2.2 ((Kd.S_reads' XA29_0.at_).1 ▸ (Kd.S_reads' XA29_0.at_).2.1) (Kd.R_reads' XA31_0.at_).2.2 ((Kd.R_reads' XA31_0.at_).1 ▸ (Kd.R_reads' XA31_0.at_).2.1) F5.out).mono ?_
       rintro e w1 ⟨v32_0, rfl, ho32_0, hb⟩
       obtain ⟨A32_0, c32_0, rfl, _, _⟩ := Kd.S_reads ho32_0
       have hTop := (hP _ (GV.go HB.out).at_).2
       obtain ⟨loA32_0, hiA32_0, hOA32_0, hTA32_0, hSA32_0⟩ := newS (Nat.le_refl _) (hP _ (GV.go HB.out).at_).1.1.1.1.1 hb ho32_0
       (try replace XA29_0 := XA29_0.go hb)
       (try replace XA31_0 := XA31_0.go hb)
       have XA32_0 := Gs.ownS hSA32_0
       have OA32_0 := aM (And.intro (Nat.le_trans hTop hOA32_0.1) hOA32_0.2)
       (try clear HTI)
       have HTI := aM hTA32_0
       clear hTop
       (try clear HDI)
       have HDI := aM (show hiA32_0 ≤ g6 ∨ g6 + 1 ≤ loA32_0 from Or.inr (Nat.le_trans (Nat.succ_le_of_lt (blk_lt BK.out)) hOA32_0.1))
       have BK1 := aM (blk_below BK.out hb); clear BK; have BK := BK1; clear BK1
       have HB1 := aM (below_step HB.out hb); clear HB hb hOA32_0 hTA32_0 hSA32_0 ho32_0; have HB := HB1; clear HB1
       refine ⟨_, rfl, (GV.go HB.out).at_, ?_⟩; intro a' ha; simp only [Act.put, List.setIfInBounds_toArray, List.set_cons_zero, List.set_cons_succ, i64_w, i32_w] at ha; subst ha
       refine (pu 5 (some 27) 319 ?_ ?_ HT_ rfl rfl (by kernel_rfl) (fun _ _ _ h => h) ?_ ?_ ?_ (pu 6 (some 33) 383 ?_ ?_ HT_ rfl rfl (by kernel_rfl) (fun _ _ _ h => h) ?_ ?_ ?_ (pu 7 (some 34) 511 ?_ ?_ HT_ rfl rfl (by kernel_rfl) (fun _ _ _ h => h) ?_ ?_ ?_ ?_)))
       all_goals first | (rintro w' hp_; obtain ⟨⟨⟨⟨⟨-, -⟩, ⟨s0, s1⟩⟩, -⟩, ⟨s2, s3, s4, s5⟩⟩, -⟩ := hP _ hp_; go_simp; with_reducible rfl) | (intro w'; go_simp; with_reducible rfl) | (simp only [Act.put, List.setIfInBounds_toArray, List.set_cons_zero, List.set_cons_succ, i64_w, i32_w]; rfl) | rfl | skip
       have hbk := blk_lt BK.out
       have hfin := XA32_0.at_
       have hg0 := HGW.out
       have hOO := OA32_0.out
       have hTT := HTI.out
       exact norm_ (by simp only [putAll, Act.put, List.setIfInBounds_toArray, List.set_cons_zero, List.set_cons_succ]; first | done | rfl) (J (A29_0, c29_0, A31_0, c31_0, A32_0, c32_0, g6, loA32_0, hiA32_0, _) _ ⟨HB.out, hfin, BK.out, ⟨hg0.1, HDI.out⟩, ⟨hOO.1, hOO.2, hTT⟩, ⟨hg0.2, hbk⟩, Nat.le_refl _⟩)
   · skip
     intro g6 w2 hg hx hb a' ha
     have HGW := aM (show wr.heap.size ≤ g6 ∧ g3 + 1 ≤ g6 from by rw [hg]; exact ⟨HB.out.size, (hP _ (GV.go HB.out).at_).2⟩)
     have HB1 := aM (below_step HB.out hb); clear HB; have HB := HB1; clear HB1; have BK := aM hx; clear hx hb
     clear hg; simp only [Act.put, List.setIfInBounds_toArray, List.set_cons_zero, List.set_cons_succ, i64_w, i32_w] at ha; subst ha
     refine rcD 1 29 263 HT_ rfl rfl (by decide) (by kernel_rfl) Try.func21 (by kernel_rfl) rfl rfl #[.agg #[.int .i64 a0_0, .slice A0_1 l0_1.length c0_1]] (by rfl) (by (try simp only [List.map_toArray, List.map_cons, List.map_nil]); first | done | rfl) ?_
     refine (laws_toChain.calls k a0_0 _ _ l0_1 fc m0 _ (Kd.C_below HR0_1.out (hP _ (GV.go HB.out).at_).1.1.1.1.1) Hc0_1.out F3.out).mono ?_
     rintro e w1 ⟨v29_0, rfl, ho29_0, hb⟩
     obtain ⟨A29_0, c29_0, rfl, _, _⟩ := Kd.S_reads ho29_0
     have hTop := (hP _ (GV.go HB.out).at_).2
     obtain ⟨loA29_0, hiA29_0, hOA29_0, hTA29_0, hSA29_0⟩ := newS (Nat.le_refl _) (hP _ (GV.go HB.out).at_).1.1.1.1.1 hb ho29_0
     (try replace XA31_0 := XA31_0.go hb)
     (try replace XA32_0 := XA32_0.go hb)
     have XA29_0 := Gs.ownS hSA29_0
     have OA29_0 := aM (And.intro (Nat.le_trans hTop hOA29_0.1) hOA29_0.2)
     (try clear HTI)
     have HTI := aM hTA29_0
     clear hTop
     (try clear HDI)
     have HDI := aM (show hiA29_0 ≤ g6 ∨ g6 + 1 ≤ loA29_0 from Or.inr (Nat.le_trans (Nat.succ_le_of_lt (blk_lt BK.out)) hOA29_0.1))
     have BK1 := aM (blk_below BK.out hb); clear BK; have BK := BK1; clear BK1
     have HB1 := aM (below_step HB.out hb); clear HB hb hOA29_0 hTA29_0 hSA29_0 ho29_0; have HB := HB1; clear HB1
     refine ⟨_, rfl, (GV.go HB.out).at_, ?_⟩; intro a' ha; simp only [Act.put, List.setIfInBounds_toArray, List.set_cons_zero, List.set_cons_succ, i64_w, i32_w] at ha; subst ha
     refine rcD 3 31 271 HT_ rfl rfl (by decide) (by kernel_rfl) Try.func37 (by kernel_rfl) rfl rfl #[.agg #[.slice A1_0 l1_0.length c1_0, .int .i64 a1_1, .int .i64 a1_2, .string a1_3]] (by rfl) (by (try simp only [List.map_toArray, List.map_cons, List.map_nil]); first | done | rfl) ?_
     refine (laws_toAlarm.calls k _ _ l1_0 a1_1 a1_2 a1_3 la sa ea na _ (Kd.C_below HR1_0.out (hP _ (GV.go HB.out).at_).1.1.1.1.1) Hc1_0.out F4.out).mono ?_
     rintro e w1 ⟨v31_0, rfl, ho31_0, hb⟩
     obtain ⟨A31_0, c31_0, rfl, _, _⟩ := Kd.R_reads ho31_0
     have hTop := (hP _ (GV.go HB.out).at_).2
     obtain ⟨loA31_0, hiA31_0, hOA31_0, hTA31_0, hSA31_0⟩ := newR (Nat.le_refl _) (hP _ (GV.go HB.out).at_).1.1.1.1.1 hb ho31_0
     (try replace XA29_0 := XA29_0.go hb)
     (try replace XA32_0 := XA32_0.go hb)
     have XA31_0 := Gs.ownR hSA31_0
     have OA31_0 := aM (And.intro (Nat.le_trans hTop hOA31_0.1) hOA31_0.2)
     (try clear HTI)
     have HTI := aM hTA31_0
     clear hTop
     (try clear HDI)
     have HDI := aM (show hiA31_0 ≤ g6 ∨ g6 + 1 ≤ loA31_0 from Or.inr (Nat.le_trans (Nat.succ_le_of_lt (blk_lt BK.out)) hOA31_0.1))
     have BK1 := aM (blk_below BK.out hb); clear BK; have BK := BK1; clear BK1
     have HB1 := aM (below_step HB.out hb); clear HB hb hOA31_0 hTA31_0 hSA31_0 ho31_0; have HB := HB1; clear HB1
     refine ⟨_, rfl, (GV.go HB.out).at_, ?_⟩; intro a' ha; simp only [Act.put, List.setIfInBounds_toArray, List.set_cons_zero, List.set_cons_succ, i64_w, i32_w] at ha; subst ha
     refine rcD 4 32 287 HT_ rfl rfl (by decide) (by kernel_rfl) Try.func36 (by kernel_rfl) rfl rfl #[.agg #[.int .i64 fc, .slice A29_0 m0.length c29_0], .agg #[.slice A31_0 la.length c31_0, .int .i64 sa, .int .i64 ea, .string na]] (by rfl) (by (try simp only [List.map_toArray, List.map_cons, List.map_nil]); first | done | rfl) ?_
     refine (spec_PutChain.calls k fc _ _ m0 _ _ la sa ea na fo mo fr _ (Kd.S_reads' XA29_0.at_).2.2 ((Kd.S_reads' XA29_0.at_).1 ▸ (Kd.S_reads' XA29_0.at_).2.1) (Kd.R_reads' XA31_0.at_).2.2 ((Kd.R_reads' XA31_0.at_).1 ▸ (Kd.R_reads' XA31_0.at_).2.1) F5.out).mono ?_
     rintro e w1 ⟨v32_0, rfl, ho32_0, hb⟩
     obtain ⟨A32_0, c32_0, rfl, _, _⟩ := Kd.S_reads ho32_0
     have hTop := (hP _ (GV.go HB.out).at_).2
     obtain ⟨loA32_0, hiA32_0, hOA32_0, hTA32_0, hSA32_0⟩ := newS (Nat.le_refl _) (hP _ (GV.go HB.out).at_).1.1.1.1.1 hb ho32_0
     (try replace XA29_0 := XA29_0.go hb)
     (try replace XA31_0 := XA31_0.go hb)
     have XA32_0 := Gs.ownS hSA32_0
     have OA32_0 := aM (And.intro (Nat.le_trans hTop hOA32_0.1) hOA32_0.2)
     (try clear HTI)
     have HTI := aM hTA32_0
     clear hTop
     (try clear HDI)
     have HDI := aM (show hiA32_0 ≤ g6 ∨ g6 + 1 ≤ loA32_0 from Or.inr (Nat.le_trans (Nat.succ_le_of_lt (blk_lt BK.out)) hOA32_0.1))
     have BK1 := aM (blk_below BK.out hb); clear BK; have BK := BK1; clear BK1
     have HB1 := aM (below_step HB.out hb); clear HB hb hOA32_0 hTA32_0 hSA32_0 ho32_0; have HB := HB1; clear HB1
     refine ⟨_, rfl, (GV.go HB.out).at_, ?_⟩; intro a' ha; simp only [Act.put, List.setIfInBounds_toArray, List.set_cons_zero, List.set_cons_succ, i64_w, i32_w] at ha; subst ha
     refine (pu 5 (some 27) 319 ?_ ?_ HT_ rfl rfl (by kernel_rfl) (fun _ _ _ h => h) ?_ ?_ ?_ (pu 6 (some 33) 383 ?_ ?_ HT_ rfl rfl (by kernel_rfl) (fun _ _ _ h => h) ?_ ?_ ?_ (pu 7 (some 34) 511 ?_ ?_ HT_ rfl rfl (by kernel_rfl) (fun _ _ _ h => h) ?_ ?_ ?_ ?_)))
     all_goals first | (rintro w' hp_; obtain ⟨⟨⟨⟨⟨-, -⟩, ⟨s0, s1⟩⟩, -⟩, ⟨s2, s3, s4, s5⟩⟩, -⟩ := hP _ hp_; go_simp; with_reducible rfl) | (intro w'; go_simp; with_reducible rfl) | (simp only [Act.put, List.setIfInBounds_toArray, List.set_cons_zero, List.set_cons_succ, i64_w, i32_w]; rfl) | rfl | skip
     have hbk := blk_lt BK.out
     have hfin := XA32_0.at_
     have hg0 := HGW.out
     have hOO := OA32_0.out
     have hTT := HTI.out
     exact norm_ (by simp only [putAll, Act.put, List.setIfInBounds_toArray, List.set_cons_zero, List.set_cons_succ]; first | done | rfl) (J (A29_0, c29_0, A31_0, c31_0, A32_0, c32_0, g6, loA32_0, hiA32_0, _) _ ⟨HB.out, hfin, BK.out, ⟨hg0.1, HDI.out⟩, ⟨hOO.1, hOO.2, hTT⟩, ⟨hg0.2, hbk⟩, Nat.le_refl _⟩)
 rintro ⟨A29_0, c29_0, A31_0, c31_0, A32_0, c32_0, g6, loA32_0, hiA32_0, T8⟩ w8 ⟨HB0, hS0, hK0, hG0, hO0, hH0, hT0⟩
 have HB1 := aM HB0; clear HB HB0; have HB := HB1; clear HB1; have BK := aM hK0; have HS0 := aM hS0; have HG0 := aM hG0; have OA32_0 := aM hO0; have Hg6 := aM hH0; have HT0 := aM hT0; clear hK0 hS0 hG0 hO0 hH0 hT0
 refine norm_ (a' := ?_) ?_ ?_
 rotate_left
 · simp only [putAll, Act.put, List.setIfInBounds_toArray, List.set_cons_zero, List.set_cons_succ]
   rfl
 have zg6_0 := cz2_0 BK
 have yg6_0 := blk_frozen BK.out 0
 have zg6_1 := cz2_1 BK
 have yg6_1 := blk_frozen BK.out 1
 refine lsD 9 1023 (w1 := ?w8_) HT_ rfl rfl (by decide) (by kernel_rfl) (by rfl) ?hr8_ ?_
 case hr8_ => go_simp; rfl
 clear zg6_0 yg6_0 zg6_1 yg6_1
 refine (pu 10 (some 7) 2047 ?_ ?_ HT_ rfl rfl (by kernel_rfl) (fun _ _ _ h => h) ?_ ?_ ?_ ?_)
 all_goals first | (rintro w' hp_; obtain ⟨⟨⟨⟨⟨-, -⟩, ⟨s0, s1⟩⟩, -⟩, ⟨s2, s3, s4, s5⟩⟩, -⟩ := hP _ hp_; go_simp; with_reducible rfl) | (intro w'; go_simp; with_reducible rfl) | (simp only [Act.put, List.setIfInBounds_toArray, List.set_cons_zero, List.set_cons_succ, i64_w, i32_w]; rfl) | rfl | skip
 refine done_ (done_of HT_.out (by kernel_rfl)) ?_
 have G1 := (((hQ _ (GV.go (set2_below HB.out HG0.out.1))).add (Gs.ownS (Kd.S_far (Kd.S_far HS0.out (p := ⟨g6, 0, none⟩) (fun k_ hk_ => (by unfold Iv at hk_; have := HG0.out; have := OA32_0.out; intro e_; dsimp only at e_; omega)) (.int .i64 fo)) (p := ⟨g6, 1, none⟩) (fun k_ hk_ => (by unfold Iv at hk_; have := HG0.out; have := OA32_0.out; intro e_; dsimp only at e_; omega)) (.slice A32_0 mo.length c32_0)))).add (Gs.ofBox2 (set2_blk BK.out))).add (Gs.top (show T8 ≤ ((w8.setCell ⟨g6, 0, none⟩ (.int .i64 fo)).setCell ⟨g6, 1, none⟩ (.slice A32_0 mo.length c32_0)).heap.size by (try simp only [World.setCell, Array.size_setIfInBounds, Array.size_modify]); first | exact HT0.out | (simp [World.setCell]; exact HT0.out)))
 generalize ((w8.setCell ⟨g6, 0, none⟩ (.int .i64 fo)).setCell ⟨g6, 1, none⟩ (.slice A32_0 mo.length c32_0)) = w9 at G1 ⊢
 have G := G1; clear G1 GV hP hQ HB BK HS0 HT0
 go_upto_region 9 with (fail)
 obtain ⟨zg2_0, zg2_1⟩ := G.at_.1.1.1.1.1.1.2
 go_upto_region 10 with (first | ((with_reducible refine gate_callee (f := 21) rfl ?_); refine goesL_ (some 36) rfl rfl Try.func21 (by kernel_rfl) rfl #[.agg #[.int .i64 a0_0, .slice A0_1 l0_1.length c0_1]] rfl (by (try simp only [List.map_toArray, List.map_cons, List.map_nil]); first | done | rfl) ?_; refine (laws_toChain.calls k a0_0 _ _ l0_1 fc m0 _ (Kd.C_below HR0_1.out G.at_.1.1.1.1.1.1.1.1) Hc0_1.out F3.out).mono ?_; rintro e w1 ⟨v36_0, rfl, ho36_0, hb⟩; refine ⟨_, rfl, ?_⟩; obtain ⟨A36_0, c36_0, rfl, _, _⟩ := Kd.S_reads ho36_0; obtain ⟨loA36_0, hiA36_0, hOA36_0, hTA36_0, hSA36_0⟩ := newS G.at_.2 G.at_.1.1.1.1.1.1.1.1 hb ho36_0; have OA36_0 := aM hOA36_0; clear hOA36_0 ho36_0; have G1 := (((G.go hb).add (Gs.ownS hSA36_0)).add (Gs.top hTA36_0)); clear G hb hSA36_0 hTA36_0; have G := G1; clear G1) | ((with_reducible refine gate_dst (N := 8) rfl ?_); refine box_event ?hg (N := 8) ?hd (cs := #[.int .i64 0, .slice none 0 0]) (t := 39) ?hr ?_; (case hd => rfl); (case hg => rfl); (case hr => first | (go_simp; done) | (go_simp; rfl)); intro g8 hg w2 hbox hb; have Hg8 := aM (show hiA36_0 ≤ g8 from hg ▸ G.at_.2); have HB_g8 := aM hb; have HE_g8 := aM hg; have BK_g8 := aM hbox; have zg8_0 := cz2_0 ⟨hbox⟩; have yg8_0 := blk_frozen hbox 0; have zg8_1 := cz2_1 ⟨hbox⟩; have yg8_1 := blk_frozen hbox 1; clear hb hbox hg))
 (try clear zg2_0)
 (try clear zg2_1)
 (try clear zg8_0)
 (try clear yg8_0)
 (try clear zg8_1)
 (try clear yg8_1)
 have G1 := ((Gs.put2 (.int .i64 fc) (.slice A36_0 m0.length c36_0) G HB_g8 HE_g8 BK_g8)).add (Gs.top (Nat.succ_le_of_lt (blk_lt (set2_blk BK_g8.out))))
 clear G; have G := G1; clear G1
 generalize ((w2.setCell ⟨g8, 0, none⟩ (.int .i64 fc)).setCell ⟨g8, 1, none⟩ (.slice A36_0 m0.length c36_0)) = w3 at G ⊢
 clear HB_g8 HE_g8 BK_g8
 obtain ⟨zg3_0, zg3_1, zg3_2, zg3_3⟩ := G.at_.1.1.1.1.1.1.1.1.2
 go_upto_region 11 with (first | ((with_reducible refine gate_callee (f := 37) rfl ?_); refine goesL_ (some 38) rfl rfl Try.func37 (by kernel_rfl) rfl #[.agg #[.slice A1_0 l1_0.length c1_0, .int .i64 a1_1, .int .i64 a1_2, .string a1_3]] rfl (by (try simp only [List.map_toArray, List.map_cons, List.map_nil]); first | done | rfl) ?_; refine (laws_toAlarm.calls k _ _ l1_0 a1_1 a1_2 a1_3 la sa ea na _ (Kd.C_below HR1_0.out G.at_.1.1.1.1.1.1.1.1.1.1.1.1) Hc1_0.out F4.out).mono ?_; rintro e w1 ⟨v38_0, rfl, ho38_0, hb⟩; refine ⟨_, rfl, ?_⟩; obtain ⟨A38_0, c38_0, rfl, _, _⟩ := Kd.R_reads ho38_0; obtain ⟨loA38_0, hiA38_0, hOA38_0, hTA38_0, hSA38_0⟩ := newR G.at_.2 G.at_.1.1.1.1.1.1.1.1.1.1.1.1 hb ho38_0; have OA38_0 := aM hOA38_0; clear hOA38_0 ho38_0; have G1 := (((G.go hb).add (Gs.ownR hSA38_0)).add (Gs.top hTA38_0)); clear G hb hSA38_0 hTA38_0; have G := G1; clear G1) | ((with_reducible refine gate_dst (N := 9) rfl ?_); refine box_event ?hg (N := 9) ?hd (cs := #[.slice none 0 0, .int .i64 0, .int .i64 0, .string (⟨#[]⟩ : ByteArray)]) (t := 26) ?hr ?_; (case hd => rfl); (case hg => rfl); (case hr => first | (go_simp; done) | (go_simp; rfl)); intro g9 hg w2 hbox hb; have Hg9 := aM (show hiA38_0 ≤ g9 from hg ▸ G.at_.2); have HB_g9 := aM hb; have HE_g9 := aM hg; have BK_g9 := aM hbox; have zg9_0 := cz4_0 ⟨hbox⟩; have yg9_0 := blk_frozen hbox 0; have zg9_1 := cz4_1 ⟨hbox⟩; have yg9_1 := blk_frozen hbox 1; have zg9_2 := cz4_2 ⟨hbox⟩; have yg9_2 := blk_frozen hbox 2; have zg9_3 := cz4_3 ⟨hbox⟩; have yg9_3 := blk_frozen hbox 3; clear hb hbox hg))
 (try clear zg3_0)
 (try clear zg3_1)
 (try clear zg3_2)
 (try clear zg3_3)
 (try clear zg9_0)
 (try clear yg9_0)
 (try clear zg9_1)
 (try clear yg9_1)
 (try clear zg9_2)
 (try clear yg9_2)
 (try clear zg9_3)
 (try clear yg9_3)
 have G1 := ((Gs.put4 (.slice A38_0 la.length c38_0) (.int .i64 sa) (.int .i64 ea) (.string na) G HB_g9 HE_g9 BK_g9)).add (Gs.top (Nat.succ_le_of_lt (blk_lt (set4_blk BK_g9.out))))
 clear G; have G := G1; clear G1
 generalize ((((w2.setCell ⟨g9, 0, none⟩ (.slice A38_0 la.length c38_0)).setCell ⟨g9, 1, none⟩ (.int .i64 sa)).setCell ⟨g9, 2, none⟩ (.int .i64 ea)).setCell ⟨g9, 3, none⟩ (.string na)) = w3 at G ⊢
 clear HB_g9 HE_g9 BK_g9
 obtain ⟨zg8_0, zg8_1⟩ := G.at_.1.1.1.1.1.2
 obtain ⟨zg9_0, zg9_1, zg9_2, zg9_3⟩ := G.at_.1.2
 go_upto_region 12 with (first | ((with_reducible refine gate_callee (f := 38) rfl ?_); refine goesL_ (some 42) rfl rfl Try.func38 (by kernel_rfl) rfl #[.agg #[.int .i64 fc, .slice A36_0 m0.length c36_0], .agg #[.slice A38_0 la.length c38_0, .int .i64 sa, .int .i64 ea, .string na]] rfl (by (try simp only [List.map_toArray, List.map_cons, List.map_nil]); first | done | rfl) ?_; refine (impl_PutChain.calls k fc _ _ m0 _ _ la sa ea na fo mo fr _ (Kd.S_reads' G.at_.1.1.1.1.1.1.1.2).2.2 ((Kd.S_reads' G.at_.1.1.1.1.1.1.1.2).1 ▸ (Kd.S_reads' G.at_.1.1.1.1.1.1.1.2).2.1) (Kd.R_reads' G.at_.1.1.1.2).2.2 ((Kd.R_reads' G.at_.1.1.1.2).1 ▸ (Kd.R_reads' G.at_.1.1.1.2).2.1) F6.out).mono ?_; rintro e w1 ⟨v42_0, rfl, ho42_0, hb⟩; refine ⟨_, rfl, ?_⟩; obtain ⟨A42_0, c42_0, rfl, _, _⟩ := Kd.S_reads ho42_0; obtain ⟨loA42_0, hiA42_0, hOA42_0, hTA42_0, hSA42_0⟩ := newS G.at_.2 G.at_.1.1.1.1.1.1.1.1.1.1.1.1.1.1.1.1 hb ho42_0; have OA42_0 := aM hOA42_0; clear hOA42_0 ho42_0; have G1 := (((G.go hb).add (Gs.ownS hSA42_0)).add (Gs.top hTA42_0)); clear G hb hSA42_0 hTA42_0; have G := G1; clear G1) | ((with_reducible refine gate_dst (N := 10) rfl ?_); refine box_event ?hg (N := 10) ?hd (cs := #[.int .i64 0, .slice none 0 0]) (t := 39) ?hr ?_; (case hd => rfl); (case hg => rfl); (case hr => first | (go_simp; done) | (go_simp; rfl)); intro g10 hg w2 hbox hb; have Hg10 := aM (show hiA42_0 ≤ g10 from hg ▸ G.at_.2); have HB_g10 := aM hb; have HE_g10 := aM hg; have BK_g10 := aM hbox; have zg10_0 := cz2_0 ⟨hbox⟩; have yg10_0 := blk_frozen hbox 0; have zg10_1 := cz2_1 ⟨hbox⟩; have yg10_1 := blk_frozen hbox 1; clear hb hbox hg))
 (try clear zg8_0)
 (try clear zg8_1)
 (try clear zg9_0)
 (try clear zg9_1)
 (try clear zg9_2)
 (try clear zg9_3)
 (try clear zg10_0)
 (try clear yg10_0)
 (try clear zg10_1)
 (try clear yg10_1)
 have G1 := ((Gs.put2 (.int .i64 fo) (.slice A42_0 mo.length c42_0) G HB_g10 HE_g10 BK_g10)).add (Gs.top (Nat.succ_le_of_lt (blk_lt (set2_blk BK_g10.out))))
 clear G; have G := G1; clear G1
 generalize ((w2.setCell ⟨g10, 0, none⟩ (.int .i64 fo)).setCell ⟨g10, 1, none⟩ (.slice A42_0 mo.length c42_0)) = w3 at G ⊢
 clear HB_g10 HE_g10 BK_g10
 have hk2_ := K2.out
 obtain ⟨zg10_0, zg10_1⟩ := G.at_.1.2
 obtain ⟨zg6_0, zg6_1⟩ := G.at_.1.1.1.1.1.1.1.1.1.1.1.1.1.2
 go_upto_region 14 with (first | ((with_reducible refine gate_callee (f := 23) rfl ?_); refine goesL_ (some 47) rfl rfl Try.func23 (by kernel_rfl) rfl #[.agg #[.int .i64 fo, .slice A42_0 mo.length c42_0], .agg #[.int .i64 fo, .slice A32_0 mo.length c32_0]] rfl (by (try simp only [List.map_toArray, List.map_cons, List.map_nil]); first | done | rfl) ?_; refine (laws_eqChain.calls k fo _ _ mo fo _ _ mo true _ (Kd.S_reads' G.at_.1.1.1.2).2.2 ((Kd.S_reads' G.at_.1.1.1.2).1 ▸ (Kd.S_reads' G.at_.1.1.1.2).2.1) (Kd.S_reads' G.at_.1.1.1.1.1.1.1.1.1.1.1.1.1.1.2).2.2 ((Kd.S_reads' G.at_.1.1.1.1.1.1.1.1.1.1.1.1.1.1.2).1 ▸ (Kd.S_reads' G.at_.1.1.1.1.1.1.1.1.1.1.1.1.1.1.2).2.1) F7.out).mono ?_; rintro e w1 ⟨rfl, hb⟩; refine ⟨_, rfl, ?_⟩; have G1 := (G.go hb); clear G hb; have G := G1; clear G1))
 (try clear zg10_0)
 (try clear zg10_1)
 (try clear zg6_0)
 (try clear zg6_1)
 refine Gs.hide G (fun Ψ GP hP hQ => ?_)
 clear G
 refine regD [] GP (by kernel_rfl) rfl laws_FnExactPutChain.tab14 laws_FnExactPutChain.bits14 (fun wr hbr GV HT_ HW_ => ?_)
 clear GP hbr
 have HB := aM (Below.refl wr.heap.size wr)
 refine (tk 0 (some 54) 1 ?_ ?_ HT_ HW_ rfl rfl (by kernel_rfl) (fun _ _ _ h => h) (GV.go HB.out).at_ ?_ ?_ ?_ (tk 1 (some 55) 3 ?_ ?_ HT_ HW_ rfl rfl (by kernel_rfl) (fun _ _ _ h => h) (GV.go HB.out).at_ ?_ ?_ ?_ ?_))
 all_goals first | (rintro w' hp_; obtain ⟨⟨⟨⟨⟨⟨⟨⟨⟨⟨⟨⟨⟨⟨⟨⟨⟨⟨⟨⟨-, -⟩, ⟨s0, s1⟩⟩, -⟩, ⟨s2, s3, s4, s5⟩⟩, -⟩, -⟩, ⟨s6, s7⟩⟩, -⟩, -⟩, -⟩, ⟨s8, s9⟩⟩, -⟩, -⟩, -⟩, ⟨s10, s11, s12, s13⟩⟩, -⟩, -⟩, -⟩, ⟨s14, s15⟩⟩, -⟩ := hP _ hp_; go_simp; with_reducible rfl) | (intro w'; go_simp; with_reducible rfl) | (simp only [Act.put, List.setIfInBounds_toArray, List.set_cons_zero, List.set_cons_succ, i64_w, i32_w]; rfl) | rfl | skip
 refine rcD 2 56 7 HT_ rfl rfl (by decide) (by kernel_rfl) Try.func21 (by kernel_rfl) rfl rfl #[.agg #[.int .i64 a0_0, .slice A0_1 l0_1.length c0_1]] (by rfl) (by (try simp only [List.map_toArray, List.map_cons, List.map_nil]); first | done | rfl) ?_
 refine (laws_toChain.calls k a0_0 _ _ l0_1 fc m0 _ (Kd.C_below HR0_1.out (hP _ (GV.go HB.out).at_).1.1.1.1.1.1.1.1.1.1.1.1.1.1.1.1.1.1.1.1) Hc0_1.out F3.out).mono ?_
 rintro e w1 ⟨v56_0, rfl, ho56_0, hb⟩
 obtain ⟨A56_0, c56_0, rfl, _, _⟩ := Kd.S_reads ho56_0
 have hTop := (hP _ (GV.go HB.out).at_).2
 obtain ⟨loA56_0, hiA56_0, hOA56_0, hTA56_0, hSA56_0⟩ := newS (Nat.le_refl _) (hP _ (GV.go HB.out).at_).1.1.1.1.1.1.1.1.1.1.1.1.1.1.1.1.1.1.1.1 hb ho56_0
 have XA56_0 := Gs.ownS hSA56_0
 have OA56_0 := aM (And.intro (Nat.le_trans hTop hOA56_0.1) hOA56_0.2)
 (try clear HTI)
 have HTI := aM hTA56_0
 clear hTop
 have HB1 := aM (below_step HB.out hb); clear HB hb hOA56_0 hTA56_0 hSA56_0 ho56_0; have HB := HB1; clear HB1
 refine ⟨_, rfl, (GV.go HB.out).at_, ?_⟩; intro a' ha; simp only [Act.put, List.setIfInBounds_toArray, List.set_cons_zero, List.set_cons_succ, i64_w, i32_w] at ha; subst ha
 refine rcD 3 57 15 HT_ rfl rfl (by decide) (by kernel_rfl) Try.func23 (by kernel_rfl) rfl rfl #[.agg #[.int .i64 fc, .slice A36_0 m0.length c36_0], .agg #[.int .i64 fc, .slice A56_0 m0.length c56_0]] (by rfl) (by (try simp only [List.map_toArray, List.map_cons, List.map_nil]); first | done | rfl) ?_
 refine (laws_eqChain.calls k fc _ _ m0 fc _ _ m0 true _ (Kd.S_reads' (hP _ (GV.go HB.out).at_).1.1.1.1.1.1.1.1.1.1.1.2).2.2 ((Kd.S_reads' (hP _ (GV.go HB.out).at_).1.1.1.1.1.1.1.1.1.1.1.2).1 ▸ (Kd.S_reads' (hP _ (GV.go HB.out).at_).1.1.1.1.1.1.1.1.1.1.1.2).2.1) (Kd.S_reads' XA56_0.at_).2.2 ((Kd.S_reads' XA56_0.at_).1 ▸ (Kd.S_reads' XA56_0.at_).2.1) F8.out).mono ?_
 rintro e w1 ⟨rfl, hb⟩
 replace XA56_0 := XA56_0.go hb
 have HB1 := aM (below_step HB.out hb); clear HB hb; have HB := HB1; clear HB1
 refine ⟨_, rfl, (GV.go HB.out).at_, ?_⟩; intro a' ha; simp only [Act.put, List.setIfInBounds_toArray, List.set_cons_zero, List.set_cons_succ, i64_w, i32_w] at ha; subst ha
 refine (pu 4 (some 58) 31 ?_ ?_ HT_ rfl rfl (by kernel_rfl) (fun _ _ _ h => h) ?_ ?_ ?_ ?_)
 all_goals first | (rintro w' hp_; obtain ⟨⟨⟨⟨⟨⟨⟨⟨⟨⟨⟨⟨⟨⟨⟨⟨⟨⟨⟨⟨-, -⟩, ⟨s0, s1⟩⟩, -⟩, ⟨s2, s3, s4, s5⟩⟩, -⟩, -⟩, ⟨s6, s7⟩⟩, -⟩, -⟩, -⟩, ⟨s8, s9⟩⟩, -⟩, -⟩, -⟩, ⟨s10, s11, s12, s13⟩⟩, -⟩, -⟩, -⟩, ⟨s14, s15⟩⟩, -⟩ := hP _ hp_; go_simp; with_reducible rfl) | (intro w'; go_simp; with_reducible rfl) | (simp only [Act.put, List.setIfInBounds_toArray, List.set_cons_zero, List.set_cons_succ, i64_w, i32_w]; rfl) | rfl | skip
 refine done_ (done_of HT_.out (by kernel_rfl)) ?_
 have G := hQ _ (GV.go HB.out)
 clear GV hP hQ HB
 go_upto_region 16 with (fail)
 refine Gs.hide G (fun Ψ GP hP hQ => ?_)
 clear G
 refine regD [] GP (by kernel_rfl) rfl laws_FnExactPutChain.tab16 laws_FnExactPutChain.bits16 (fun wr hbr GV HT_ HW_ => ?_)
 clear GP hbr
 have HB := aM (Below.refl wr.heap.size wr)
 refine (tk 0 (some 59) 1 ?_ ?_ HT_ HW_ rfl rfl (by kernel_rfl) (fun _ _ _ h => h) (GV.go HB.out).at_ ?_ ?_ ?_ (tk 1 (some 60) 3 ?_ ?_ HT_ HW_ rfl rfl (by kernel_rfl) (fun _ _ _ h => h) (GV.go HB.out).at_ ?_ ?_ ?_ ?_))
 all_goals first | (rintro w' hp_; obtain ⟨⟨⟨⟨⟨⟨⟨⟨⟨⟨⟨⟨⟨⟨⟨⟨⟨⟨⟨⟨-, -⟩, ⟨s0, s1⟩⟩, -⟩, ⟨s2, s3, s4, s5⟩⟩, -⟩, -⟩, ⟨s6, s7⟩⟩, -⟩, -⟩, -⟩, ⟨s8, s9⟩⟩, -⟩, -⟩, -⟩, ⟨s10, s11, s12, s13⟩⟩, -⟩, -⟩, -⟩, ⟨s14, s15⟩⟩, -⟩ := hP _ hp_; go_simp; with_reducible rfl) | (intro w'; go_simp; with_reducible rfl) | (simp only [Act.put, List.setIfInBounds_toArray, List.set_cons_zero, List.set_cons_succ, i64_w, i32_w]; rfl) | rfl | skip
 refine rcD 2 61 7 HT_ rfl rfl (by decide) (by kernel_rfl) Try.func37 (by kernel_rfl) rfl rfl #[.agg #[.slice A1_0 l1_0.length c1_0, .int .i64 a1_1, .int .i64 a1_2, .string a1_3]] (by rfl) (by (try simp only [List.map_toArray, List.map_cons, List.map_nil]); first | done | rfl) ?_
 refine (laws_toAlarm.calls k _ _ l1_0 a1_1 a1_2 a1_3 la sa ea na _ (Kd.C_below HR1_0.out (hP _ (GV.go HB.out).at_).1.1.1.1.1.1.1.1.1.1.1.1.1.1.1.1.1.1.1.1) Hc1_0.out F4.out).mono ?_
 rintro e w1 ⟨v61_0, rfl, ho61_0, hb⟩
 obtain ⟨A61_0, c61_0, rfl, _, _⟩ := Kd.R_reads ho61_0
 have hTop := (hP _ (GV.go HB.out).at_).2
 obtain ⟨loA61_0, hiA61_0, hOA61_0, hTA61_0, hSA61_0⟩ := newR (Nat.le_refl _) (hP _ (GV.go HB.out).at_).1.1.1.1.1.1.1.1.1.1.1.1.1.1.1.1.1.1.1.1 hb ho61_0
 have XA61_0 := Gs.ownR hSA61_0
 have OA61_0 := aM (And.intro (Nat.le_trans hTop hOA61_0.1) hOA61_0.2)
 (try clear HTI)
 have HTI := aM hTA61_0
 clear hTop
 have HB1 := aM (below_step HB.out hb); clear HB hb hOA61_0 hTA61_0 hSA61_0 ho61_0; have HB := HB1; clear HB1
 refine ⟨_, rfl, (GV.go HB.out).at_, ?_⟩; intro a' ha; simp only [Act.put, List.setIfInBounds_toArray, List.set_cons_zero, List.set_cons_succ, i64_w, i32_w] at ha; subst ha
 refine rcD 3 62 15 HT_ rfl rfl (by decide) (by kernel_rfl) Try.func39 (by kernel_rfl) rfl rfl #[.agg #[.slice A38_0 la.length c38_0, .int .i64 sa, .int .i64 ea, .string na], .agg #[.slice A61_0 la.length c61_0, .int .i64 sa, .int .i64 ea, .string na]] (by rfl) (by (try simp only [List.map_toArray, List.map_cons, List.map_nil]); first | done | rfl) ?_
 refine (laws_eqAlarm.calls k _ _ la sa ea na _ _ la sa ea na true _ (Kd.R_reads' (hP _ (GV.go HB.out).at_).1.1.1.1.1.1.1.2).2.2 ((Kd.R_reads' (hP _ (GV.go HB.out).at_).1.1.1.1.1.1.1.2).1 ▸ (Kd.R_reads' (hP _ (GV.go HB.out).at_).1.1.1.1.1.1.1.2).2.1) (Kd.R_reads' XA61_0.at_).2.2 ((Kd.R_reads' XA61_0.at_).1 ▸ (Kd.R_reads' XA61_0.at_).2.1) F9.out).mono ?_
 rintro e w1 ⟨rfl, hb⟩
 replace XA61_0 := XA61_0.go hb
 have HB1 := aM (below_step HB.out hb); clear HB hb; have HB := HB1; clear HB1
 refine ⟨_, rfl, (GV.go HB.out).at_, ?_⟩; intro a' ha; simp only [Act.put, List.setIfInBounds_toArray, List.set_cons_zero, List.set_cons_succ, i64_w, i32_w] at ha; subst ha
 refine (pu 4 (some 63) 31 ?_ ?_ HT_ rfl rfl (by kernel_rfl) (fun _ _ _ h => h) ?_ ?_ ?_ ?_)
 all_goals first | (rintro w' hp_; obtain ⟨⟨⟨⟨⟨⟨⟨⟨⟨⟨⟨⟨⟨⟨⟨⟨⟨⟨⟨⟨-, -⟩, ⟨s0, s1⟩⟩, -⟩, ⟨s2, s3, s4, s5⟩⟩, -⟩, -⟩, ⟨s6, s7⟩⟩, -⟩, -⟩, -⟩, ⟨s8, s9⟩⟩, -⟩, -⟩, -⟩, ⟨s10, s11, s12, s13⟩⟩, -⟩, -⟩, -⟩, ⟨s14, s15⟩⟩, -⟩ := hP _ hp_; go_simp; with_reducible rfl) | (intro w'; go_simp; with_reducible rfl) | (simp only [Act.put, List.setIfInBounds_toArray, List.set_cons_zero, List.set_cons_succ, i64_w, i32_w]; rfl) | rfl | skip
 refine done_ (done_of HT_.out (by kernel_rfl)) ?_
 have G := hQ _ (GV.go HB.out)
 clear GV hP hQ HB
 go_upto_region 18 with (fail)
 go_upto_region 19 with (fail)
 obtain ⟨zg8_0, zg8_1⟩ := G.at_.1.1.1.1.1.1.1.1.1.2
 go_upto_region 20 with (first | ((with_reducible refine gate_callee (f := 25) rfl ?_); refine goesL_ (some 66) rfl rfl Try.func25 (by kernel_rfl) rfl #[.agg #[.int .i64 fc, .slice A36_0 m0.length c36_0], .int .i64 1] rfl (by (try simp only [List.map_toArray, List.map_cons, List.map_nil]); first | done | rfl) ?_; refine (laws_markChain.calls k (Iv loA36_0 hiA36_0) fc _ _ m0 1 e1 m1 w _ G.at_.1.1.1.1.1.1.1.1.1.1.1.1.1.1.1.1.1.1.1.1 G.at_.1.1.1.1.1.1.1.1.1.1.1.2 F10.out).mono ?_; rintro e w1 ⟨rfl, hy, hb, hk⟩; refine ⟨_, rfl, ?_⟩; have G1 := (((((((((((((((((((((Gs.bel hb).add (Gs.top (Nat.le_trans G.at_.1.1.1.1.1.1.1.1.1.1.1.1.1.1.1.1.1.1.1.2 hk.1))).add (Gs.ofB2 (box2_kept G.at_.1.1.1.1.1.1.1.1.1.1.1.1.1.1.1.1.1.1.2 hk (fun h1_ => (by unfold Iv at *; have o0_ := Hg2.out; have o1_ := Hg3.out; have o2_ := OA32_0.out; have o3_ := Hg6.out; have o4_ := OA36_0.out; have o5_ := Hg8.out; have o6_ := OA38_0.out; have o7_ := Hg9.out; have o8_ := OA42_0.out; have o9_ := Hg10.out; omega))))).add (Gs.top (Nat.le_trans G.at_.1.1.1.1.1.1.1.1.1.1.1.1.1.1.1.1.1.2 hk.1))).add (Gs.ofB4 (box4_kept G.at_.1.1.1.1.1.1.1.1.1.1.1.1.1.1.1.1.2 hk (fun h1_ => (by unfold Iv at *; have o0_ := Hg2.out; have o1_ := Hg3.out; have o2_ := OA32_0.out; have o3_ := Hg6.out; have o4_ := OA36_0.out; have o5_ := Hg8.out; have o6_ := OA38_0.out; have o7_ := Hg9.out; have o8_ := OA42_0.out; have o9_ := Hg10.out; omega))))).add (Gs.top (Nat.le_trans G.at_.1.1.1.1.1.1.1.1.1.1.1.1.1.1.1.2 hk.1))).add (Gs.ownS (Kd.S_kept G.at_.1.1.1.1.1.1.1.1.1.1.1.1.1.1.2 hk (fun k_ h1_ h2_ => (by unfold Iv at *; have o0_ := Hg2.out; have o1_ := Hg3.out; have o2_ := OA32_0.out; have o3_ := Hg6.out; have o4_ := OA36_0.out; have o5_ := Hg8.out; have o6_ := OA38_0.out; have o7_ := Hg9.out; have o8_ := OA42_0.out; have o9_ := Hg10.out; omega))))).add (Gs.ofB2 (box2_kept G.at_.1.1.1.1.1.1.1.1.1.1.1.1.1.2 hk (fun h1_ => (by unfold Iv at *; have o0_ := Hg2.out; have o1_ := Hg3.out; have o2_ := OA32_0.out; have o3_ := Hg6.out; have o4_ := OA36_0.out; have o5_ := Hg8.out; have o6_ := OA38_0.out; have o7_ := Hg9.out; have o8_ := OA42_0.out; have o9_ := Hg10.out; omega))))).add (Gs.top (Nat.le_trans G.at_.1.1.1.1.1.1.1.1.1.1.1.1.2 hk.1))).add (Gs.ownS hy)).add (Gs.top (Nat.le_trans G.at_.1.1.1.1.1.1.1.1.1.1.2 hk.1))).add (Gs.ofB2 (box2_kept G.at_.1.1.1.1.1.1.1.1.1.2 hk (fun h1_ => (by unfold Iv at *; have o0_ := Hg2.out; have o1_ := Hg3.out; have o2_ := OA32_0.out; have o3_ := Hg6.out; have o4_ := OA36_0.out; have o5_ := Hg8.out; have o6_ := OA38_0.out; have o7_ := Hg9.out; have o8_ := OA42_0.out; have o9_ := Hg10.out; omega))))).add (Gs.top (Nat.le_trans G.at_.1.1.1.1.1.1.1.1.2 hk.1))).add (Gs.ownR (Kd.R_kept G.at_.1.1.1.1.1.1.1.2 hk (fun k_ h1_ h2_ => (by unfold Iv at *; have o0_ := Hg2.out; have o1_ := Hg3.out; have o2_ := OA32_0.out; have o3_ := Hg6.out; have o4_ := OA36_0.out; have o5_ := Hg8.out; have o6_ := OA38_0.out; have o7_ := Hg9.out; have o8_ := OA42_0.out; have o9_ := Hg10.out; omega))))).add (Gs.top (Nat.le_trans G.at_.1.1.1.1.1.1.2 hk.1))).add (Gs.ofB4 (box4_kept G.at_.1.1.1.1.1.2 hk (fun h1_ => (by unfold Iv at *; have o0_ := Hg2.out; have o1_ := Hg3.out; have o2_ := OA32_0.out; have o3_ := Hg6.out; have o4_ := OA36_0.out; have o5_ := Hg8.out; have o6_ := OA38_0.out; have o7_ := Hg9.out; have o8_ := OA42_0.out; have o9_ := Hg10.out; omega))))).add (Gs.top (Nat.le_trans G.at_.1.1.1.1.2 hk.1))).add (Gs.ownS (Kd.S_kept G.at_.1.1.1.2 hk (fun k_ h1_ h2_ => (by unfold Iv at *; have o0_ := Hg2.out; have o1_ := Hg3.out; have o2_ := OA32_0.out; have o3_ := Hg6.out; have o4_ := OA36_0.out; have o5_ := Hg8.out; have o6_ := OA38_0.out; have o7_ := Hg9.out; have o8_ := OA42_0.out; have o9_ := Hg10.out; omega))))).add (Gs.top (Nat.le_trans G.at_.1.1.2 hk.1))).add (Gs.ofB2 (box2_kept G.at_.1.2 hk (fun h1_ => (by unfold Iv at *; have o0_ := Hg2.out; have o1_ := Hg3.out; have o2_ := OA32_0.out; have o3_ := Hg6.out; have o4_ := OA36_0.out; have o5_ := Hg8.out; have o6_ := OA38_0.out; have o7_ := Hg9.out; have o8_ := OA42_0.out; have o9_ := Hg10.out; omega))))).add (Gs.top (Nat.le_trans G.at_.2 hk.1))); have HLA36_0 := aM (Kd.S_reads' hy).1.symm; clear G hy hb hk; have G := G1; clear G1))
 (try clear zg8_0)
 (try clear zg8_1)
 obtain ⟨zg9_0, zg9_1, zg9_2, zg9_3⟩ := G.at_.1.1.1.1.1.2
 go_upto_region 21 with (first | ((with_reducible refine gate_callee (f := 40) rfl ?_); refine goesL_ (some 69) rfl rfl Try.func40 (by kernel_rfl) rfl #[.agg #[.slice A38_0 la.length c38_0, .int .i64 sa, .int .i64 ea, .string na], .int .i64 e1] rfl (by (try simp only [List.map_toArray, List.map_cons, List.map_nil]); first | done | rfl) ?_; refine (laws_markAlarm.calls k (Iv loA38_0 hiA38_0) (.slice A38_0 la.length c38_0) la sa ea na e1 e2 lm w _ G.at_.1.1.1.1.1.1.1.1.1.1.1.1.1.1.1.1.1.1.1.1 G.at_.1.1.1.1.1.1.1.2 F11.out).mono ?_; rintro e w1 ⟨rfl, hy, hb, hk⟩; refine ⟨_, rfl, ?_⟩; have G1 := (((((((((((((((((((((Gs.bel hb).add (Gs.top (Nat.le_trans G.at_.1.1.1.1.1.1.1.1.1.1.1.1.1.1.1.1.1.1.1.2 hk.1))).add (Gs.ofB2 (box2_kept G.at_.1.1.1.1.1.1.1.1.1.1.1.1.1.1.1.1.1.1.2 hk (fun h1_ => (by unfold Iv at *; have o0_ := Hg2.out; have o1_ := Hg3.out; have o2_ := OA32_0.out; have o3_ := Hg6.out; have o4_ := OA36_0.out; have o5_ := Hg8.out; have o6_ := OA38_0.out; have o7_ := Hg9.out; have o8_ := OA42_0.out; have o9_ := Hg10.out; omega))))).add (Gs.top (Nat.le_trans G.at_.1.1.1.1.1.1.1.1.1.1.1.1.1.1.1.1.1.2 hk.1))).add (Gs.ofB4 (box4_kept G.at_.1.1.1.1.1.1.1.1.1.1.1.1.1.1.1.1.2 hk (fun h1_ => (by unfold Iv at *; have o0_ := Hg2.out; have o1_ := Hg3.out; have o2_ := OA32_0.out; have o3_ := Hg6.out; have o4_ := OA36_0.out; have o5_ := Hg8.out; have o6_ := OA38_0.out; have o7_ := Hg9.out; have o8_ := OA42_0.out; have o9_ := Hg10.out; omega))))).add (Gs.top (Nat.le_trans G.at_.1.1.1.1.1.1.1.1.1.1.1.1.1.1.1.2 hk.1))).add (Gs.ownS (Kd.S_kept G.at_.1.1.1.1.1.1.1.1.1.1.1.1.1.1.2 hk (fun k_ h1_ h2_ => (by unfold Iv at *; have o0_ := Hg2.out; have o1_ := Hg3.out; have o2_ := OA32_0.out; have o3_ := Hg6.out; have o4_ := OA36_0.out; have o5_ := Hg8.out; have o6_ := OA38_0.out; have o7_ := Hg9.out; have o8_ := OA42_0.out; have o9_ := Hg10.out; omega))))).add (Gs.ofB2 (box2_kept G.at_.1.1.1.1.1.1.1.1.1.1.1.1.1.2 hk (fun h1_ => (by unfold Iv at *; have o0_ := Hg2.out; have o1_ := Hg3.out; have o2_ := OA32_0.out; have o3_ := Hg6.out; have o4_ := OA36_0.out; have o5_ := Hg8.out; have o6_ := OA38_0.out; have o7_ := Hg9.out; have o8_ := OA42_0.out; have o9_ := Hg10.out; omega))))).add (Gs.top (Nat.le_trans G.at_.1.1.1.1.1.1.1.1.1.1.1.1.2 hk.1))).add (Gs.ownS (Kd.S_kept G.at_.1.1.1.1.1.1.1.1.1.1.1.2 hk (fun k_ h1_ h2_ => (by unfold Iv at *; have o0_ := Hg2.out; have o1_ := Hg3.out; have o2_ := OA32_0.out; have o3_ := Hg6.out; have o4_ := OA36_0.out; have o5_ := Hg8.out; have o6_ := OA38_0.out; have o7_ := Hg9.out; have o8_ := OA42_0.out; have o9_ := Hg10.out; omega))))).add (Gs.top (Nat.le_trans G.at_.1.1.1.1.1.1.1.1.1.1.2 hk.1))).add (Gs.ofB2 (box2_kept G.at_.1.1.1.1.1.1.1.1.1.2 hk (fun h1_ => (by unfold Iv at *; have o0_ := Hg2.out; have o1_ := Hg3.out; have o2_ := OA32_0.out; have o3_ := Hg6.out; have o4_ := OA36_0.out; have o5_ := Hg8.out; have o6_ := OA38_0.out; have o7_ := Hg9.out; have o8_ := OA42_0.out; have o9_ := Hg10.out; omega))))).add (Gs.top (Nat.le_trans G.at_.1.1.1.1.1.1.1.1.2 hk.1))).add (Gs.ownR (Kd.R_reok rfl hy (fun k_ e_ => G.at_.1.1.1.1.1.1.1.2.1 k_ e_)))).add (Gs.top (Nat.le_trans G.at_.1.1.1.1.1.1.2 hk.1))).add (Gs.ofB4 (box4_kept G.at_.1.1.1.1.1.2 hk (fun h1_ => (by unfold Iv at *; have o0_ := Hg2.out; have o1_ := Hg3.out; have o2_ := OA32_0.out; have o3_ := Hg6.out; have o4_ := OA36_0.out; have o5_ := Hg8.out; have o6_ := OA38_0.out; have o7_ := Hg9.out; have o8_ := OA42_0.out; have o9_ := Hg10.out; omega))))).add (Gs.top (Nat.le_trans G.at_.1.1.1.1.2 hk.1))).add (Gs.ownS (Kd.S_kept G.at_.1.1.1.2 hk (fun k_ h1_ h2_ => (by unfold Iv at *; have o0_ := Hg2.out; have o1_ := Hg3.out; have o2_ := OA32_0.out; have o3_ := Hg6.out; have o4_ := OA36_0.out; have o5_ := Hg8.out; have o6_ := OA38_0.out; have o7_ := Hg9.out; have o8_ := OA42_0.out; have o9_ := Hg10.out; omega))))).add (Gs.top (Nat.le_trans G.at_.1.1.2 hk.1))).add (Gs.ofB2 (box2_kept G.at_.1.2 hk (fun h1_ => (by unfold Iv at *; have o0_ := Hg2.out; have o1_ := Hg3.out; have o2_ := OA32_0.out; have o3_ := Hg6.out; have o4_ := OA36_0.out; have o5_ := Hg8.out; have o6_ := OA38_0.out; have o7_ := Hg9.out; have o8_ := OA42_0.out; have o9_ := Hg10.out; omega))))).add (Gs.top (Nat.le_trans G.at_.2 hk.1))); have HLA38_0 := aM (Kd.R_reads' hy).1.symm; clear G hy hb hk; have G := G1; clear G1))
 (try clear zg9_0)
 (try clear zg9_1)
 (try clear zg9_2)
 (try clear zg9_3)
 have hk3_ := K3.out
 have hk2_ := K2.out
 obtain ⟨zg10_0, zg10_1⟩ := G.at_.1.2
 obtain ⟨zg6_0, zg6_1⟩ := G.at_.1.1.1.1.1.1.1.1.1.1.1.1.1.2
 go_upto_region 23 with (first | ((with_reducible refine gate_callee (f := 23) rfl ?_); refine gate_guard (by rfl) ?_; refine goesL_ (some 75) rfl rfl Try.func23 (by kernel_rfl) rfl #[.agg #[.int .i64 fo, .slice A42_0 mo.length c42_0], .agg #[.int .i64 fo, .slice A32_0 mo.length c32_0]] rfl (by (try simp only [List.map_toArray, List.map_cons, List.map_nil]); first | done | rfl) ?_; refine (laws_eqChain.calls k fo _ _ mo fo _ _ mo true _ (Kd.S_reads' G.at_.1.1.1.2).2.2 ((Kd.S_reads' G.at_.1.1.1.2).1 ▸ (Kd.S_reads' G.at_.1.1.1.2).2.1) (Kd.S_reads' G.at_.1.1.1.1.1.1.1.1.1.1.1.1.1.1.2).2.2 ((Kd.S_reads' G.at_.1.1.1.1.1.1.1.1.1.1.1.1.1.1.2).1 ▸ (Kd.S_reads' G.at_.1.1.1.1.1.1.1.1.1.1.1.1.1.1.2).2.1) F7.out).mono ?_; rintro e w1 ⟨rfl, hb⟩; refine ⟨_, rfl, ?_⟩; have G1 := (G.go hb); clear G hb; have G := G1; clear G1))
 (try clear zg10_0)
 (try clear zg10_1)
 (try clear zg6_0)
 (try clear zg6_1)
 go_upto_region 24 with (fail)
 obtain ⟨zg10_0, zg10_1⟩ := G.at_.1.2
 go_upto_region 25 with (first | ((with_reducible refine gate_callee (f := 25) rfl ?_); refine goesL_ (some 85) rfl rfl Try.func25 (by kernel_rfl) rfl #[.agg #[.int .i64 fo, .slice A42_0 mo.length c42_0], .int .i64 1] rfl (by (try simp only [List.map_toArray, List.map_cons, List.map_nil]); first | done | rfl) ?_; refine (laws_markChain.calls k (Iv loA42_0 hiA42_0) fo _ _ mo 1 e3 m2 w _ G.at_.1.1.1.1.1.1.1.1.1.1.1.1.1.1.1.1.1.1.1.1 G.at_.1.1.1.2 F12.out).mono ?_; rintro e w1 ⟨rfl, hy, hb, hk⟩; refine ⟨_, rfl, ?_⟩; have G1 := (((((((((((((((((((((Gs.bel hb).add (Gs.top (Nat.le_trans G.at_.1.1.1.1.1.1.1.1.1.1.1.1.1.1.1.1.1.1.1.2 hk.1))).add (Gs.ofB2 (box2_kept G.at_.1.1.1.1.1.1.1.1.1.1.1.1.1.1.1.1.1.1.2 hk (fun h1_ => (by unfold Iv at *; have o0_ := Hg2.out; have o1_ := Hg3.out; have o2_ := OA32_0.out; have o3_ := Hg6.out; have o4_ := OA36_0.out; have o5_ := Hg8.out; have o6_ := OA38_0.out; have o7_ := Hg9.out; have o8_ := OA42_0.out; have o9_ := Hg10.out; omega))))).add (Gs.top (Nat.le_trans G.at_.1.1.1.1.1.1.1.1.1.1.1.1.1.1.1.1.1.2 hk.1))).add (Gs.ofB4 (box4_kept G.at_.1.1.1.1.1.1.1.1.1.1.1.1.1.1.1.1.2 hk (fun h1_ => (by unfold Iv at *; have o0_ := Hg2.out; have o1_ := Hg3.out; have o2_ := OA32_0.out; have o3_ := Hg6.out; have o4_ := OA36_0.out; have o5_ := Hg8.out; have o6_ := OA38_0.out; have o7_ := Hg9.out; have o8_ := OA42_0.out; have o9_ := Hg10.out; omega))))).add (Gs.top (Nat.le_trans G.at_.1.1.1.1.1.1.1.1.1.1.1.1.1.1.1.2 hk.1))).add (Gs.ownS (Kd.S_kept G.at_.1.1.1.1.1.1.1.1.1.1.1.1.1.1.2 hk (fun k_ h1_ h2_ => (by unfold Iv at *; have o0_ := Hg2.out; have o1_ := Hg3.out; have o2_ := OA32_0.out; have o3_ := Hg6.out; have o4_ := OA36_0.out; have o5_ := Hg8.out; have o6_ := OA38_0.out; have o7_ := Hg9.out; have o8_ := OA42_0.out; have o9_ := Hg10.out; omega))))).add (Gs.ofB2 (box2_kept G.at_.1.1.1.1.1.1.1.1.1.1.1.1.1.2 hk (fun h1_ => (by unfold Iv at *; have o0_ := Hg2.out; have o1_ := Hg3.out; have o2_ := OA32_0.out; have o3_ := Hg6.out; have o4_ := OA36_0.out; have o5_ := Hg8.out; have o6_ := OA38_0.out; have o7_ := Hg9.out; have o8_ := OA42_0.out; have o9_ := Hg10.out; omega))))).add (Gs.top (Nat.le_trans G.at_.1.1.1.1.1.1.1.1.1.1.1.1.2 hk.1))).add (Gs.ownS (Kd.S_kept G.at_.1.1.1.1.1.1.1.1.1.1.1.2 hk (fun k_ h1_ h2_ => (by unfold Iv at *; have o0_ := Hg2.out; have o1_ := Hg3.out; have o2_ := OA32_0.out; have o3_ := Hg6.out; have o4_ := OA36_0.out; have o5_ := Hg8.out; have o6_ := OA38_0.out; have o7_ := Hg9.out; have o8_ := OA42_0.out; have o9_ := Hg10.out; omega))))).add (Gs.top (Nat.le_trans G.at_.1.1.1.1.1.1.1.1.1.1.2 hk.1))).add (Gs.ofB2 (box2_kept G.at_.1.1.1.1.1.1.1.1.1.2 hk (fun h1_ => (by unfold Iv at *; have o0_ := Hg2.out; have o1_ := Hg3.out; have o2_ := OA32_0.out; have o3_ := Hg6.out; have o4_ := OA36_0.out; have o5_ := Hg8.out; have o6_ := OA38_0.out; have o7_ := Hg9.out; have o8_ := OA42_0.out; have o9_ := Hg10.out; omega))))).add (Gs.top (Nat.le_trans G.at_.1.1.1.1.1.1.1.1.2 hk.1))).add (Gs.ownR (Kd.R_kept G.at_.1.1.1.1.1.1.1.2 hk (fun k_ h1_ h2_ => (by unfold Iv at *; have o0_ := Hg2.out; have o1_ := Hg3.out; have o2_ := OA32_0.out; have o3_ := Hg6.out; have o4_ := OA36_0.out; have o5_ := Hg8.out; have o6_ := OA38_0.out; have o7_ := Hg9.out; have o8_ := OA42_0.out; have o9_ := Hg10.out; omega))))).add (Gs.top (Nat.le_trans G.at_.1.1.1.1.1.1.2 hk.1))).add (Gs.ofB4 (box4_kept G.at_.1.1.1.1.1.2 hk (fun h1_ => (by unfold Iv at *; have o0_ := Hg2.out; have o1_ := Hg3.out; have o2_ := OA32_0.out; have o3_ := Hg6.out; have o4_ := OA36_0.out; have o5_ := Hg8.out; have o6_ := OA38_0.out; have o7_ := Hg9.out; have o8_ := OA42_0.out; have o9_ := Hg10.out; omega))))).add (Gs.top (Nat.le_trans G.at_.1.1.1.1.2 hk.1))).add (Gs.ownS hy)).add (Gs.top (Nat.le_trans G.at_.1.1.2 hk.1))).add (Gs.ofB2 (box2_kept G.at_.1.2 hk (fun h1_ => (by unfold Iv at *; have o0_ := Hg2.out; have o1_ := Hg3.out; have o2_ := OA32_0.out; have o3_ := Hg6.out; have o4_ := OA36_0.out; have o5_ := Hg8.out; have o6_ := OA38_0.out; have o7_ := Hg9.out; have o8_ := OA42_0.out; have o9_ := Hg10.out; omega))))).add (Gs.top (Nat.le_trans G.at_.2 hk.1))); have HLA42_0 := aM (Kd.S_reads' hy).1.symm; clear G hy hb hk; have G := G1; clear G1))
 (try clear zg10_0)
 (try clear zg10_1)
 go_upto_region 26 with (fail)
 obtain ⟨zg10_0, zg10_1⟩ := G.at_.1.2
 go_upto_region 27 with (first | ((with_reducible refine gate_callee (f := 27) rfl ?_); refine goesL_ (some 88) rfl rfl Try.func27 (by kernel_rfl) rfl #[.agg #[.int .i64 fo, .slice A42_0 m2.length c42_0], .int .i64 1] rfl (by (try simp only [List.map_toArray, List.map_cons, List.map_nil]); first | done | rfl | (simp only [HLA36_0.out, HLA38_0.out, HLA42_0.out]; rfl)) ?_; refine (laws_heldChain.calls k fo _ _ m2 1 e3 _ (Kd.S_reads' G.at_.1.1.1.2).2.2 ((Kd.S_reads' G.at_.1.1.1.2).1 ▸ (Kd.S_reads' G.at_.1.1.1.2).2.1) F13.out).mono ?_; rintro e w1 ⟨rfl, hb⟩; refine ⟨_, rfl, ?_⟩; have G1 := (G.go hb); clear G hb; have G := G1; clear G1))
 (try clear zg10_0)
 (try clear zg10_1)
 have hk4_ := K4.out
 go_upto_region 29 with (fail)
 have hk5_ := K5.out
 go_upto_region 31 with (fail)
 refine Gs.hide G (fun Ψ GP hP hQ => ?_)
 clear G
 refine regD [9] GP (by kernel_rfl) rfl laws_FnExactPutChain.tab31 laws_FnExactPutChain.bits31 (fun wr hbr GV HT_ HW_ => ?_)
 clear GP hbr
 have HB := aM (Below.refl wr.heap.size wr)
 refine (tk 0 (some 95) 1 ?_ ?_ HT_ HW_ rfl rfl (by kernel_rfl) (fun _ _ _ h => h) (GV.go HB.out).at_ ?_ ?_ ?_ (tk 2 (some 97) 5 ?_ ?_ HT_ HW_ rfl rfl (by kernel_rfl) (fun _ _ _ h => h) (GV.go HB.out).at_ ?_ ?_ ?_ ?_))
 all_goals first | (rintro w' hp_; obtain ⟨⟨⟨⟨⟨⟨⟨⟨⟨⟨⟨⟨⟨⟨⟨⟨⟨⟨⟨⟨-, -⟩, ⟨s0, s1⟩⟩, -⟩, ⟨s2, s3, s4, s5⟩⟩, -⟩, -⟩, ⟨s6, s7⟩⟩, -⟩, -⟩, -⟩, ⟨s8, s9⟩⟩, -⟩, -⟩, -⟩, ⟨s10, s11, s12, s13⟩⟩, -⟩, -⟩, -⟩, ⟨s14, s15⟩⟩, -⟩ := hP _ hp_; go_simp; with_reducible rfl) | (intro w'; go_simp; with_reducible rfl) | (simp only [Act.put, List.setIfInBounds_toArray, List.set_cons_zero, List.set_cons_succ, i64_w, i32_w]; rfl) | rfl | skip
 refine join_ (σ := Option Addr × Nat × Option Addr × Nat × Option Addr × Nat × Nat × Nat × Nat × Nat) 2 (bz 11 511) (fun s_ => match s_ with | (A96_0, c96_0, A98_0, c98_0, A99_0, c99_0, g15, loA99_0, hiA99_0, T31) => [(96, .agg #[.int .i64 fc, .slice A96_0 m0.length c96_0]), (98, .agg #[.slice A98_0 la.length c98_0, .int .i64 sa, .int .i64 ea, .string na]), (99, .tuple #[.agg #[.int .i64 fo, .slice A99_0 mo.length c99_0], .bool fr]), (15, .pointer (some ⟨g15, 0, none⟩)), (94, .tuple #[.agg #[.int .i64 fo, .slice A99_0 mo.length c99_0], .bool fr]), (100, .agg #[.int .i64 fo, .slice A99_0 mo.length c99_0]), (101, .bool fr)]) (fun s_ W_ => match s_ with | (A96_0, c96_0, A98_0, c98_0, A99_0, c99_0, g15, loA99_0, hiA99_0, T31) => Below wr.heap.size wr W_ ∧ Kd.S k26 26 W_ w.heap.size (Iv loA99_0 hiA99_0) (.slice A99_0 mo.length c99_0) mo ∧ W_.heap[g15]? = some (.cells #[.int .i64 0, .slice none 0 0] 39 (0, 0)) ∧ (wr.heap.size ≤ g15 ∧ (hiA99_0 ≤ g15 ∨ g15 + 1 ≤ loA99_0)) ∧ (g10 + 1 ≤ loA99_0 ∧ loA99_0 ≤ hiA99_0 ∧ hiA99_0 ≤ T31) ∧ (g10 + 1 ≤ g15 ∧ g15 + 1 ≤ T31) ∧ T31 ≤ W_.heap.size) ?_ ?_
 rotate_left
 · intro J
   refine tcD 1 96 7 8 15 261 (fun g_ => .pointer (some ⟨g_, 0, none⟩)) #[.int .i64 0, .slice none 0 0] 39 HT_ rfl rfl rfl rfl (by decide) (by decide) (by kernel_rfl) Try.func21 (by kernel_rfl) rfl rfl #[.agg #[.int .i64 a0_0, .slice A0_1 l0_1.length c0_1]] (by rfl) (by (try simp only [List.map_toArray, List.map_cons, List.map_nil]); first | done | rfl) (GV.go HB.out) (by rfl) (by first | (go_simp; done) | (go_simp; rfl)) ?_ ?_
   · skip
     refine (laws_toChain.calls k a0_0 _ _ l0_1 fc m0 _ (Kd.C_below HR0_1.out (hP _ (GV.go HB.out).at_).1.1.1.1.1.1.1.1.1.1.1.1.1.1.1.1.1.1.1.1) Hc0_1.out F3.out).mono ?_
     rintro e w1 ⟨v96_0, rfl, ho96_0, hb⟩
     obtain ⟨A96_0, c96_0, rfl, _, _⟩ := Kd.S_reads ho96_0
     have hTop := (hP _ (GV.go HB.out).at_).2
     obtain ⟨loA96_0, hiA96_0, hOA96_0, hTA96_0, hSA96_0⟩ := newS (Nat.le_refl _) (hP _ (GV.go HB.out).at_).1.1.1.1.1.1.1.1.1.1.1.1.1.1.1.1.1.1.1.1 hb ho96_0
     (try replace XA98_0 := XA98_0.go hb)
     (try replace XA99_0 := XA99_0.go hb)
     have XA96_0 := Gs.ownS hSA96_0
     have OA96_0 := aM (And.intro (Nat.le_trans hTop hOA96_0.1) hOA96_0.2)
     (try clear HTI)
     have HTI := aM hTA96_0
     clear hTop
     have HB1 := aM (below_step HB.out hb); clear HB hb hOA96_0 hTA96_0 hSA96_0 ho96_0; have HB := HB1; clear HB1
     refine ⟨_, rfl, (GV.go HB.out).at_, ?_⟩; intro a' ha; simp only [Act.put, List.setIfInBounds_toArray, List.set_cons_zero, List.set_cons_succ, i64_w, i32_w] at ha; subst ha
     refine tcD 3 98 15 8 15 263 (fun g_ => .pointer (some ⟨g_, 0, none⟩)) #[.int .i64 0, .slice none 0 0] 39 HT_ rfl rfl rfl rfl (by decide) (by decide) (by kernel_rfl) Try.func37 (by kernel_rfl) rfl rfl #[.agg #[.slice A1_0 l1_0.length c1_0, .int .i64 a1_1, .int .i64 a1_2, .string a1_3]] (by rfl) (by (try simp only [List.map_toArray, List.map_cons, List.map_nil]); first | done | rfl) (GV.go HB.out) (by rfl) (by first | (go_simp; done) | (go_simp; rfl)) ?_ ?_
     · skip
       refine (laws_toAlarm.calls k _ _ l1_0 a1_1 a1_2 a1_3 la sa ea na _ (Kd.C_below HR1_0.out (hP _ (GV.go HB.out).at_).1.1.1.1.1.1.1.1.1.1.1.1.1.1.1.1.1.1.1.1) Hc1_0.out F4.out).mono ?_
       rintro e w1 ⟨v98_0, rfl, ho98_0, hb⟩
       obtain ⟨A98_0, c98_0, rfl, _, _⟩ := Kd.R_reads ho98_0
       have hTop := (hP _ (GV.go HB.out).at_).2
       obtain ⟨loA98_0, hiA98_0, hOA98_0, hTA98_0, hSA98_0⟩ := newR (Nat.le_refl _) (hP _ (GV.go HB.out).at_).1.1.1.1.1.1.1.1.1.1.1.1.1.1.1.1.1.1.1.1 hb ho98_0
       (try replace XA96_0 := XA96_0.go hb)
       (try replace XA99_0 := XA99_0.go hb)
       have XA98_0 := Gs.ownR hSA98_0
       have OA98_0 := aM (And.intro (Nat.le_trans hTop hOA98_0.1) hOA98_0.2)
       (try clear HTI)
       have HTI := aM hTA98_0
       clear hTop
       have HB1 := aM (below_step HB.out hb); clear HB hb hOA98_0 hTA98_0 hSA98_0 ho98_0; have HB := HB1; clear HB1
       refine ⟨_, rfl, (GV.go HB.out).at_, ?_⟩; intro a' ha; simp only [Act.put, List.setIfInBounds_toArray, List.set_cons_zero, List.set_cons_succ, i64_w, i32_w] at ha; subst ha
       refine tcD 4 99 31 8 15 271 (fun g_ => .pointer (some ⟨g_, 0, none⟩)) #[.int .i64 0, .slice none 0 0] 39 HT_ rfl rfl rfl rfl (by decide) (by decide) (by kernel_rfl) Try.func38 (by kernel_rfl) rfl rfl #[.agg #[.int .i64 fc, .slice A96_0 m0.length c96_0], .agg #[.slice A98_0 la.length c98_0, .int .i64 sa, .int .i64 ea, .string na]] (by rfl) (by (try simp only [List.map_toArray, List.map_cons, List.map_nil]); first | done | rfl) (GV.go HB.out) (by rfl) (by first | (go_simp; done) | (go_simp; rfl)) ?_ ?_
       · skip
         refine (impl_PutChain.calls k fc _ _ m0 _ _ la sa ea na fo mo fr _ (Kd.S_reads' XA96_0.at_).2.2 ((Kd.S_reads' XA96_0.at_).1 ▸ (Kd.S_reads' XA96_0.at_).2.1) (Kd.R_reads' XA98_0.at_).2.2 ((Kd.R_reads' XA98_0.at_).1 ▸ (Kd.R_reads' XA98_0.at_).2.1) F6.out).mono ?_
         rintro e w1 ⟨v99_0, rfl, ho99_0, hb⟩
         obtain ⟨A99_0, c99_0, rfl, _, _⟩ := Kd.S_reads ho99_0
         have hTop := (hP _ (GV.go HB.out).at_).2
         obtain ⟨loA99_0, hiA99_0, hOA99_0, hTA99_0, hSA99_0⟩ := newS (Nat.le_refl _) (hP _ (GV.go HB.out).at_).1.1.1.1.1.1.1.1.1.1.1.1.1.1.1.1.1.1.1.1 hb ho99_0
         (try replace XA96_0 := XA96_0.go hb)
         (try replace XA98_0 := XA98_0.go hb)
         have XA99_0 := Gs.ownS hSA99_0
         have OA99_0 := aM (And.intro (Nat.le_trans hTop hOA99_0.1) hOA99_0.2)
         (try clear HTI)
         have HTI := aM hTA99_0
         clear hTop
         have HB1 := aM (below_step HB.out hb); clear HB hb hOA99_0 hTA99_0 hSA99_0 ho99_0; have HB := HB1; clear HB1
         refine ⟨_, rfl, (GV.go HB.out).at_, ?_⟩; intro a' ha; simp only [Act.put, List.setIfInBounds_toArray, List.set_cons_zero, List.set_cons_succ, i64_w, i32_w] at ha; subst ha
         refine (pu 5 (some 94) 63 ?_ ?_ HT_ rfl rfl (by kernel_rfl) (fun _ _ _ h => h) ?_ ?_ ?_ (pu 6 (some 100) 127 ?_ ?_ HT_ rfl rfl (by kernel_rfl) (fun _ _ _ h => h) ?_ ?_ ?_ (pu 7 (some 101) 255 ?_ ?_ HT_ rfl rfl (by kernel_rfl) (fun _ _ _ h => h) ?_ ?_ ?_ ?_)))
         all_goals first | (rintro w' hp_; obtain ⟨⟨⟨⟨⟨⟨⟨⟨⟨⟨⟨⟨⟨⟨⟨⟨⟨⟨⟨⟨-, -⟩, ⟨s0, s1⟩⟩, -⟩, ⟨s2, s3, s4, s5⟩⟩, -⟩, -⟩, ⟨s6, s7⟩⟩, -⟩, -⟩, -⟩, ⟨s8, s9⟩⟩, -⟩, -⟩, -⟩, ⟨s10, s11, s12, s13⟩⟩, -⟩, -⟩, -⟩, ⟨s14, s15⟩⟩, -⟩ := hP _ hp_; go_simp; with_reducible rfl) | (intro w'; go_simp; with_reducible rfl) | (simp only [Act.put, List.setIfInBounds_toArray, List.set_cons_zero, List.set_cons_succ, i64_w, i32_w]; rfl) | rfl | skip
         refine raD 8 15 511 (fun g_ => .pointer (some ⟨g_, 0, none⟩)) #[.int .i64 0, .slice none 0 0] 39 HT_ rfl rfl (by decide) (by kernel_rfl) (GV.go HB.out) (by rfl) (by first | (go_simp; done) | (go_simp; rfl)) (fun g15 w2 hg hx hb _ a' ha => ?_)
         replace XA96_0 := XA96_0.go hb
         replace XA98_0 := XA98_0.go hb
         replace XA99_0 := XA99_0.go hb
         have HGW := aM (show wr.heap.size ≤ g15 ∧ g10 + 1 ≤ g15 from by rw [hg]; exact ⟨HB.out.size, (hP _ (GV.go HB.out).at_).2⟩)
         have HDI := aM (show hiA99_0 ≤ g15 ∨ g15 + 1 ≤ loA99_0 from Or.inl (by rw [hg]; exact HTI.out))
         have HTI1 := aM (Nat.le_trans HTI.out hb.size); clear HTI; have HTI := HTI1; clear HTI1
         have HB1 := aM (below_step HB.out hb); clear HB; have HB := HB1; clear HB1; have BK := aM hx; clear hx hb
         clear hg; simp only [Act.put, List.setIfInBounds_toArray, List.set_cons_zero, List.set_cons_succ, i64_w, i32_w] at ha; subst ha
         have hbk := blk_lt BK.out
         have hfin := XA99_0.at_
         have hg0 := HGW.out
         have hOO := OA99_0.out
         have hTT := HTI.out
         exact norm_ (by simp only [putAll, Act.put, List.setIfInBounds_toArray, List.set_cons_zero, List.set_cons_succ]; first | done | rfl) (J (A96_0, c96_0, A98_0, c98_0, A99_0, c99_0, g15, loA99_0, hiA99_0, _) _ ⟨HB.out, hfin, BK.out, ⟨hg0.1, HDI.out⟩, ⟨hOO.1, hOO.2, hTT⟩, ⟨hg0.2, hbk⟩, Nat.le_refl _⟩)
       · skip
         intro g15 w2 hg hx hb a' ha
         replace XA96_0 := XA96_0.go hb
         replace XA98_0 := XA98_0.go hb
         have HGW := aM (show wr.heap.size ≤ g15 ∧ g10 + 1 ≤ g15 from by rw [hg]; exact ⟨HB.out.size, (hP _ (GV.go HB.out).at_).2⟩)
         clear HTI
         have HB1 := aM (below_step HB.out hb); clear HB; have HB := HB1; clear HB1; have BK := aM hx; clear hx hb
         clear hg; simp only [Act.put, List.setIfInBounds_toArray, List.set_cons_zero, List.set_cons_succ, i64_w, i32_w] at ha; subst ha
         refine rcD 4 99 287 HT_ rfl rfl (by decide) (by kernel_rfl) Try.func38 (by kernel_rfl) rfl rfl #[.agg #[.int .i64 fc, .slice A96_0 m0.length c96_0], .agg #[.slice A98_0 la.length c98_0, .int .i64 sa, .int .i64 ea, .string na]] (by rfl) (by (try simp only [List.map_toArray, List.map_cons, List.map_nil]); first | done | rfl) ?_
         refine (impl_PutChain.calls k fc _ _ m0 _ _ la sa ea na fo mo fr _ (Kd.S_reads' XA96_0.at_).2.2 ((Kd.S_reads' XA96_0.at_).1 ▸ (Kd.S_reads' XA96_0.at_).2.1) (Kd.R_reads' XA98_0.at_).2.2 ((Kd.R_reads' XA98_0.at_).1 ▸ (Kd.R_reads' XA98_0.at_).2.1) F6.out).mono ?_
         rintro e w1 ⟨v99_0, rfl, ho99_0, hb⟩
         obtain ⟨A99_0, c99_0, rfl, _, _⟩ := Kd.S_reads ho99_0
         have hTop := (hP _ (GV.go HB.out).at_).2
         obtain ⟨loA99_0, hiA99_0, hOA99_0, hTA99_0, hSA99_0⟩ := newS (Nat.le_refl _) (hP _ (GV.go HB.out).at_).1.1.1.1.1.1.1.1.1.1.1.1.1.1.1.1.1.1.1.1 hb ho99_0
         (try replace XA96_0 := XA96_0.go hb)
         (try replace XA98_0 := XA98_0.go hb)
         have XA99_0 := Gs.ownS hSA99_0
         have OA99_0 := aM (And.intro (Nat.le_trans hTop hOA99_0.1) hOA99_0.2)
         (try clear HTI)
         have HTI := aM hTA99_0
         clear hTop
         (try clear HDI)
         have HDI := aM (show hiA99_0 ≤ g15 ∨ g15 + 1 ≤ loA99_0 from Or.inr (Nat.le_trans (Nat.succ_le_of_lt (blk_lt BK.out)) hOA99_0.1))
         have BK1 := aM (blk_below BK.out hb); clear BK; have BK := BK1; clear BK1
         have HB1 := aM (below_step HB.out hb); clear HB hb hOA99_0 hTA99_0 hSA99_0 ho99_0; have HB := HB1; clear HB1
         refine ⟨_, rfl, (GV.go HB.out).at_, ?_⟩; intro a' ha; simp only [Act.put, List.setIfInBounds_toArray, List.set_cons_zero, List.set_cons_succ, i64_w, i32_w] at ha; subst ha
         refine (pu 5 (some 94) 319 ?_ ?_ HT_ rfl rfl (by kernel_rfl) (fun _ _ _ h => h) ?_ ?_ ?_ (pu 6 (some 100) 383 ?_ ?_ HT_ rfl rfl (by kernel_rfl) (fun _ _ _ h => h) ?_ ?_ ?_ (pu 7 (some 101) 511 ?_ ?_ HT_ rfl rfl (by kernel_rfl) (fun _ _ _ h => h) ?_ ?_ ?_ ?_)))
         all_goals first | (rintro w' hp_; obtain ⟨⟨⟨⟨⟨⟨⟨⟨⟨⟨⟨⟨⟨⟨⟨⟨⟨⟨⟨⟨-, -⟩, ⟨s0, s1⟩⟩, -⟩, ⟨s2, s3, s4, s5⟩⟩, -⟩, -⟩, ⟨s6, s7⟩⟩, -⟩, -⟩, -⟩, ⟨s8, s9⟩⟩, -⟩, -⟩, -⟩, ⟨s10, s11, s12, s13⟩⟩, -⟩, -⟩, -⟩, ⟨s14, s15⟩⟩, -⟩ := hP _ hp_; go_simp; with_reducible rfl) | (intro w'; go_simp; with_reducible rfl) | (simp only [Act.put, List.setIfInBounds_toArray, List.set_cons_zero, List.set_cons_succ, i64_w, i32_w]; rfl) | rfl | skip
         have hbk := blk_lt BK.out
         have hfin := XA99_0.at_
         have hg0 := HGW.out
         have hOO := OA99_0.out
         have hTT := HTI.out
         exact norm_ (by simp only [putAll, Act.put, List.setIfInBounds_toArray, List.set_cons_zero, List.set_cons_succ]; first | done | rfl) (J (A96_0, c96_0, A98_0, c98_0, A99_0, c99_0, g15, loA99_0, hiA99_0, _) _ ⟨HB.out, hfin, BK.out, ⟨hg0.1, HDI.out⟩, ⟨hOO.1, hOO.2, hTT⟩, ⟨hg0.2, hbk⟩, Nat.le_refl _⟩)
     · skip
       intro g15 w2 hg hx hb a' ha
       replace XA96_0 := XA96_0.go hb
       have HGW := aM (show wr.heap.size ≤ g15 ∧ g10 + 1 ≤ g15 from by rw [hg]; exact ⟨HB.out.size, (hP _ (GV.go HB.out).at_).2⟩)
       clear HTI
       have HB1 := aM (below_step HB.out hb); clear HB; have HB := HB1; clear HB1; have BK := aM hx; clear hx hb
       clear hg; simp only [Act.put, List.setIfInBounds_toArray, List.set_cons_zero, List.set_cons_succ, i64_w, i32_w] at ha; subst ha
       refine rcD 3 98 271 HT_ rfl rfl (by decide) (by kernel_rfl) Try.func37 (by kernel_rfl) rfl rfl #[.agg #[.slice A1_0 l1_0.length c1_0, .int .i64 a1_1, .int .i64 a1_2, .string a1_3]] (by rfl) (by (try simp only [List.map_toArray, List.map_cons, List.map_nil]); first | done | rfl) ?_
       refine (laws_toAlarm.calls k _ _ l1_0 a1_1 a1_2 a1_3 la sa ea na _ (Kd.C_below HR1_0.out (hP _ (GV.go HB.out).at_).1.1.1.1.1.1.1.1.1.1.1.1.1.1.1.1.1.1.1.1) Hc1_0.out F4.out).mono ?_
       rintro e w1 ⟨v98_0, rfl, ho98_0, hb⟩
       obtain ⟨A98_0, c98_0, rfl, _, _⟩ := Kd.R_reads ho98_0
       have hTop := (hP _ (GV.go HB.out).at_).2
       obtain ⟨loA98_0, hiA98_0, hOA98_0, hTA98_0, hSA98_0⟩ := newR (Nat.le_refl _) (hP _ (GV.go HB.out).at_).1.1.1.1.1.1.1.1.1.1.1.1.1.1.1.1.1.1.1.1 hb ho98_0
       (try replace XA96_0 := XA96_0.go hb)
       (try replace XA99_0 := XA99_0.go hb)
       have XA98_0 := Gs.ownR hSA98_0
       have OA98_0 := aM (And.intro (Nat.le_trans hTop hOA98_0.1) hOA98_0.2)
       (try clear HTI)
       have HTI := aM hTA98_0
       clear hTop
       (try clear HDI)
       have HDI := aM (show hiA98_0 ≤ g15 ∨ g15 + 1 ≤ loA98_0 from Or.inr (Nat.le_trans (Nat.succ_le_of_lt (blk_lt BK.out)) hOA98_0.1))
       have BK1 := aM (blk_below BK.out hb); clear BK; have BK := BK1; clear BK1
       have HB1 := aM (below_step HB.out hb); clear HB hb hOA98_0 hTA98_0 hSA98_0 ho98_0; have HB := HB1; clear HB1
       refine ⟨_, rfl, (GV.go HB.out).at_, ?_⟩; intro a' ha; simp only [Act.put, List.setIfInBounds_toArray, List.set_cons_zero, List.set_cons_succ, i64_w, i32_w] at ha; subst ha
       refine rcD 4 99 287 HT_ rfl rfl (by decide) (by kernel_rfl) Try.func38 (by kernel_rfl) rfl rfl #[.agg #[.int .i64 fc, .slice A96_0 m0.length c96_0], .agg #[.slice A98_0 la.length c98_0, .int .i64 sa, .int .i64 ea, .string na]] (by rfl) (by (try simp only [List.map_toArray, List.map_cons, List.map_nil]); first | done | rfl) ?_
       refine (impl_PutChain.calls k fc _ _ m0 _ _ la sa ea na fo mo fr _ (Kd.S_reads' XA96_0.at_).2.2 ((Kd.S_reads' XA96_0.at_).1 ▸ (Kd.S_reads' XA96_0.at_).2.1) (Kd.R_reads' XA98_0.at_).2.2 ((Kd.R_reads' XA98_0.at_).1 ▸ (Kd.R_reads' XA98_0.at_).2.1) F6.out).mono ?_
       rintro e w1 ⟨v99_0, rfl, ho99_0, hb⟩
       obtain ⟨A99_0, c99_0, rfl, _, _⟩ := Kd.S_reads ho99_0
       have hTop := (hP _ (GV.go HB.out).at_).2
       obtain ⟨loA99_0, hiA99_0, hOA99_0, hTA99_0, hSA99_0⟩ := newS (Nat.le_refl _) (hP _ (GV.go HB.out).at_).1.1.1.1.1.1.1.1.1.1.1.1.1.1.1.1.1.1.1.1 hb ho99_0
       (try replace XA96_0 := XA96_0.go hb)
       (try replace XA98_0 := XA98_0.go hb)
       have XA99_0 := Gs.ownS hSA99_0
       have OA99_0 := aM (And.intro (Nat.le_trans hTop hOA99_0.1) hOA99_0.2)
       (try clear HTI)
       have HTI := aM hTA99_0
       clear hTop
       (try clear HDI)
       have HDI := aM (show hiA99_0 ≤ g15 ∨ g15 + 1 ≤ loA99_0 from Or.inr (Nat.le_trans (Nat.succ_le_of_lt (blk_lt BK.out)) hOA99_0.1))
       have BK1 := aM (blk_below BK.out hb); clear BK; have BK := BK1; clear BK1
       have HB1 := aM (below_step HB.out hb); clear HB hb hOA99_0 hTA99_0 hSA99_0 ho99_0; have HB := HB1; clear HB1
       refine ⟨_, rfl, (GV.go HB.out).at_, ?_⟩; intro a' ha; simp only [Act.put, List.setIfInBounds_toArray, List.set_cons_zero, List.set_cons_succ, i64_w, i32_w] at ha; subst ha
       refine (pu 5 (some 94) 319 ?_ ?_ HT_ rfl rfl (by kernel_rfl) (fun _ _ _ h => h) ?_ ?_ ?_ (pu 6 (some 100) 383 ?_ ?_ HT_ rfl rfl (by kernel_rfl) (fun _ _ _ h => h) ?_ ?_ ?_ (pu 7 (some 101) 511 ?_ ?_ HT_ rfl rfl (by kernel_rfl) (fun _ _ _ h => h) ?_ ?_ ?_ ?_)))
       all_goals first | (rintro w' hp_; obtain ⟨⟨⟨⟨⟨⟨⟨⟨⟨⟨⟨⟨⟨⟨⟨⟨⟨⟨⟨⟨-, -⟩, ⟨s0, s1⟩⟩, -⟩, ⟨s2, s3, s4, s5⟩⟩, -⟩, -⟩, ⟨s6, s7⟩⟩, -⟩, -⟩, -⟩, ⟨s8, s9⟩⟩, -⟩, -⟩, -⟩, ⟨s10, s11, s12, s13⟩⟩, -⟩, -⟩, -⟩, ⟨s14, s15⟩⟩, -⟩ := hP _ hp_; go_simp; with_reducible rfl) | (intro w'; go_simp; with_reducible rfl) | (simp only [Act.put, List.setIfInBounds_toArray, List.set_cons_zero, List.set_cons_succ, i64_w, i32_w]; rfl) | rfl | skip
       have hbk := blk_lt BK.out
       have hfin := XA99_0.at_
       have hg0 := HGW.out
       have hOO := OA99_0.out
       have hTT := HTI.out
       exact norm_ (by simp only [putAll, Act.put, List.setIfInBounds_toArray, List.set_cons_zero, List.set_cons_succ]; first | done | rfl) (J (A96_0, c96_0, A98_0, c98_0, A99_0, c99_0, g15, loA99_0, hiA99_0, _) _ ⟨HB.out, hfin, BK.out, ⟨hg0.1, HDI.out⟩, ⟨hOO.1, hOO.2, hTT⟩, ⟨hg0.2, hbk⟩, Nat.le_refl _⟩)
   · skip
     intro g15 w2 hg hx hb a' ha
     have HGW := aM (show wr.heap.size ≤ g15 ∧ g10 + 1 ≤ g15 from by rw [hg]; exact ⟨HB.out.size, (hP _ (GV.go HB.out).at_).2⟩)
     have HB1 := aM (below_step HB.out hb); clear HB; have HB := HB1; clear HB1; have BK := aM hx; clear hx hb
     clear hg; simp only [Act.put, List.setIfInBounds_toArray, List.set_cons_zero, List.set_cons_succ, i64_w, i32_w] at ha; subst ha
     refine rcD 1 96 263 HT_ rfl rfl (by decide) (by kernel_rfl) Try.func21 (by kernel_rfl) rfl rfl #[.agg #[.int .i64 a0_0, .slice A0_1 l0_1.length c0_1]] (by rfl) (by (try simp only [List.map_toArray, List.map_cons, List.map_nil]); first | done | rfl) ?_
     refine (laws_toChain.calls k a0_0 _ _ l0_1 fc m0 _ (Kd.C_below HR0_1.out (hP _ (GV.go HB.out).at_).1.1.1.1.1.1.1.1.1.1.1.1.1.1.1.1.1.1.1.1) Hc0_1.out F3.out).mono ?_
     rintro e w1 ⟨v96_0, rfl, ho96_0, hb⟩
     obtain ⟨A96_0, c96_0, rfl, _, _⟩ := Kd.S_reads ho96_0
     have hTop := (hP _ (GV.go HB.out).at_).2
     obtain ⟨loA96_0, hiA96_0, hOA96_0, hTA96_0, hSA96_0⟩ := newS (Nat.le_refl _) (hP _ (GV.go HB.out).at_).1.1.1.1.1.1.1.1.1.1.1.1.1.1.1.1.1.1.1.1 hb ho96_0
     (try replace XA98_0 := XA98_0.go hb)
     (try replace XA99_0 := XA99_0.go hb)
     have XA96_0 := Gs.ownS hSA96_0
     have OA96_0 := aM (And.intro (Nat.le_trans hTop hOA96_0.1) hOA96_0.2)
     (try clear HTI)
     have HTI := aM hTA96_0
     clear hTop
     (try clear HDI)
     have HDI := aM (show hiA96_0 ≤ g15 ∨ g15 + 1 ≤ loA96_0 from Or.inr (Nat.le_trans (Nat.succ_le_of_lt (blk_lt BK.out)) hOA96_0.1))
     have BK1 := aM (blk_below BK.out hb); clear BK; have BK := BK1; clear BK1
     have HB1 := aM (below_step HB.out hb); clear HB hb hOA96_0 hTA96_0 hSA96_0 ho96_0; have HB := HB1; clear HB1
     refine ⟨_, rfl, (GV.go HB.out).at_, ?_⟩; intro a' ha; simp only [Act.put, List.setIfInBounds_toArray, List.set_cons_zero, List.set_cons_succ, i64_w, i32_w] at ha; subst ha
     refine rcD 3 98 271 HT_ rfl rfl (by decide) (by kernel_rfl) Try.func37 (by kernel_rfl) rfl rfl #[.agg #[.slice A1_0 l1_0.length c1_0, .int .i64 a1_1, .int .i64 a1_2, .string a1_3]] (by rfl) (by (try simp only [List.map_toArray, List.map_cons, List.map_nil]); first | done | rfl) ?_
     refine (laws_toAlarm.calls k _ _ l1_0 a1_1 a1_2 a1_3 la sa ea na _ (Kd.C_below HR1_0.out (hP _ (GV.go HB.out).at_).1.1.1.1.1.1.1.1.1.1.1.1.1.1.1.1.1.1.1.1) Hc1_0.out F4.out).mono ?_
     rintro e w1 ⟨v98_0, rfl, ho98_0, hb⟩
     obtain ⟨A98_0, c98_0, rfl, _, _⟩ := Kd.R_reads ho98_0
     have hTop := (hP _ (GV.go HB.out).at_).2
     obtain ⟨loA98_0, hiA98_0, hOA98_0, hTA98_0, hSA98_0⟩ := newR (Nat.le_refl _) (hP _ (GV.go HB.out).at_).1.1.1.1.1.1.1.1.1.1.1.1.1.1.1.1.1.1.1.1 hb ho98_0
     (try replace XA96_0 := XA96_0.go hb)
     (try replace XA99_0 := XA99_0.go hb)
     have XA98_0 := Gs.ownR hSA98_0
     have OA98_0 := aM (And.intro (Nat.le_trans hTop hOA98_0.1) hOA98_0.2)
     (try clear HTI)
     have HTI := aM hTA98_0
     clear hTop
     (try clear HDI)
     have HDI := aM (show hiA98_0 ≤ g15 ∨ g15 + 1 ≤ loA98_0 from Or.inr (Nat.le_trans (Nat.succ_le_of_lt (blk_lt BK.out)) hOA98_0.1))
     have BK1 := aM (blk_below BK.out hb); clear BK; have BK := BK1; clear BK1
     have HB1 := aM (below_step HB.out hb); clear HB hb hOA98_0 hTA98_0 hSA98_0 ho98_0; have HB := HB1; clear HB1
     refine ⟨_, rfl, (GV.go HB.out).at_, ?_⟩; intro a' ha; simp only [Act.put, List.setIfInBounds_toArray, List.set_cons_zero, List.set_cons_succ, i64_w, i32_w] at ha; subst ha
     refine rcD 4 99 287 HT_ rfl rfl (by decide) (by kernel_rfl) Try.func38 (by kernel_rfl) rfl rfl #[.agg #[.int .i64 fc, .slice A96_0 m0.length c96_0], .agg #[.slice A98_0 la.length c98_0, .int .i64 sa, .int .i64 ea, .string na]] (by rfl) (by (try simp only [List.map_toArray, List.map_cons, List.map_nil]); first | done | rfl) ?_
     refine (impl_PutChain.calls k fc _ _ m0 _ _ la sa ea na fo mo fr _ (Kd.S_reads' XA96_0.at_).2.2 ((Kd.S_reads' XA96_0.at_).1 ▸ (Kd.S_reads' XA96_0.at_).2.1) (Kd.R_reads' XA98_0.at_).2.2 ((Kd.R_reads' XA98_0.at_).1 ▸ (Kd.R_reads' XA98_0.at_).2.1) F6.out).mono ?_
     rintro e w1 ⟨v99_0, rfl, ho99_0, hb⟩
     obtain ⟨A99_0, c99_0, rfl, _, _⟩ := Kd.S_reads ho99_0
     have hTop := (hP _ (GV.go HB.out).at_).2
     obtain ⟨loA99_0, hiA99_0, hOA99_0, hTA99_0, hSA99_0⟩ := newS (Nat.le_refl _) (hP _ (GV.go HB.out).at_).1.1.1.1.1.1.1.1.1.1.1.1.1.1.1.1.1.1.1.1 hb ho99_0
     (try replace XA96_0 := XA96_0.go hb)
     (try replace XA98_0 := XA98_0.go hb)
     have XA99_0 := Gs.ownS hSA99_0
     have OA99_0 := aM (And.intro (Nat.le_trans hTop hOA99_0.1) hOA99_0.2)
     (try clear HTI)
     have HTI := aM hTA99_0
     clear hTop
     (try clear HDI)
     have HDI := aM (show hiA99_0 ≤ g15 ∨ g15 + 1 ≤ loA99_0 from Or.inr (Nat.le_trans (Nat.succ_le_of_lt (blk_lt BK.out)) hOA99_0.1))
     have BK1 := aM (blk_below BK.out hb); clear BK; have BK := BK1; clear BK1
     have HB1 := aM (below_step HB.out hb); clear HB hb hOA99_0 hTA99_0 hSA99_0 ho99_0; have HB := HB1; clear HB1
     refine ⟨_, rfl, (GV.go HB.out).at_, ?_⟩; intro a' ha; simp only [Act.put, List.setIfInBounds_toArray, List.set_cons_zero, List.set_cons_succ, i64_w, i32_w] at ha; subst ha
     refine (pu 5 (some 94) 319 ?_ ?_ HT_ rfl rfl (by kernel_rfl) (fun _ _ _ h => h) ?_ ?_ ?_ (pu 6 (some 100) 383 ?_ ?_ HT_ rfl rfl (by kernel_rfl) (fun _ _ _ h => h) ?_ ?_ ?_ (pu 7 (some 101) 511 ?_ ?_ HT_ rfl rfl (by kernel_rfl) (fun _ _ _ h => h) ?_ ?_ ?_ ?_)))
     all_goals first | (rintro w' hp_; obtain ⟨⟨⟨⟨⟨⟨⟨⟨⟨⟨⟨⟨⟨⟨⟨⟨⟨⟨⟨⟨-, -⟩, ⟨s0, s1⟩⟩, -⟩, ⟨s2, s3, s4, s5⟩⟩, -⟩, -⟩, ⟨s6, s7⟩⟩, -⟩, -⟩, -⟩, ⟨s8, s9⟩⟩, -⟩, -⟩, -⟩, ⟨s10, s11, s12, s13⟩⟩, -⟩, -⟩, -⟩, ⟨s14, s15⟩⟩, -⟩ := hP _ hp_; go_simp; with_reducible rfl) | (intro w'; go_simp; with_reducible rfl) | (simp only [Act.put, List.setIfInBounds_toArray, List.set_cons_zero, List.set_cons_succ, i64_w, i32_w]; rfl) | rfl | skip
     have hbk := blk_lt BK.out
     have hfin := XA99_0.at_
     have hg0 := HGW.out
     have hOO := OA99_0.out
     have hTT := HTI.out
     exact norm_ (by simp only [putAll, Act.put, List.setIfInBounds_toArray, List.set_cons_zero, List.set_cons_succ]; first | done | rfl) (J (A96_0, c96_0, A98_0, c98_0, A99_0, c99_0, g15, loA99_0, hiA99_0, _) _ ⟨HB.out, hfin, BK.out, ⟨hg0.1, HDI.out⟩, ⟨hOO.1, hOO.2, hTT⟩, ⟨hg0.2, hbk⟩, Nat.le_refl _⟩)
 rintro ⟨A96_0, c96_0, A98_0, c98_0, A99_0, c99_0, g15, loA99_0, hiA99_0, T31⟩ w8 ⟨HB0, hS0, hK0, hG0, hO0, hH0, hT0⟩
 have HB1 := aM HB0; clear HB HB0; have HB := HB1; clear HB1; have BK := aM hK0; have HS0 := aM hS0; have HG0 := aM hG0; have OA99_0 := aM hO0; have Hg15 := aM hH0; have HT0 := aM hT0; clear hK0 hS0 hG0 hO0 hH0 hT0
 refine norm_ (a' := ?_) ?_ ?_
 rotate_left
 · simp only [putAll, Act.put, List.setIfInBounds_toArray, List.set_cons_zero, List.set_cons_succ]
   rfl
 have zg15_0 := cz2_0 BK
 have yg15_0 := blk_frozen BK.out 0
 have zg15_1 := cz2_1 BK
 have yg15_1 := blk_frozen BK.out 1
 refine lsD 9 1023 (w1 := ?w31_) HT_ rfl rfl (by decide) (by kernel_rfl) (by rfl) ?hr31_ ?_
 case hr31_ => go_simp; rfl
 clear zg15_0 yg15_0 zg15_1 yg15_1
 refine (pu 10 (some 16) 2047 ?_ ?_ HT_ rfl rfl (by kernel_rfl) (fun _ _ _ h => h) ?_ ?_ ?_ ?_)
 all_goals first | (rintro w' hp_; obtain ⟨⟨⟨⟨⟨⟨⟨⟨⟨⟨⟨⟨⟨⟨⟨⟨⟨⟨⟨⟨-, -⟩, ⟨s0, s1⟩⟩, -⟩, ⟨s2, s3, s4, s5⟩⟩, -⟩, -⟩, ⟨s6, s7⟩⟩, -⟩, -⟩, -⟩, ⟨s8, s9⟩⟩, -⟩, -⟩, -⟩, ⟨s10, s11, s12, s13⟩⟩, -⟩, -⟩, -⟩, ⟨s14, s15⟩⟩, -⟩ := hP _ hp_; go_simp; with_reducible rfl) | (intro w'; go_simp; with_reducible rfl) | (simp only [Act.put, List.setIfInBounds_toArray, List.set_cons_zero, List.set_cons_succ, i64_w, i32_w]; rfl) | rfl | skip
 refine done_ (done_of HT_.out (by kernel_rfl)) ?_
 have G1 := (((hQ _ (GV.go (set2_below HB.out HG0.out.1))).add (Gs.ownS (Kd.S_far (Kd.S_far HS0.out (p := ⟨g15, 0, none⟩) (fun k_ hk_ => (by unfold Iv at hk_; have := HG0.out; have := OA99_0.out; intro e_; dsimp only at e_; omega)) (.int .i64 fo)) (p := ⟨g15, 1, none⟩) (fun k_ hk_ => (by unfold Iv at hk_; have := HG0.out; have := OA99_0.out; intro e_; dsimp only at e_; omega)) (.slice A99_0 mo.length c99_0)))).add (Gs.ofBox2 (set2_blk BK.out))).add (Gs.top (show T31 ≤ ((w8.setCell ⟨g15, 0, none⟩ (.int .i64 fo)).setCell ⟨g15, 1, none⟩ (.slice A99_0 mo.length c99_0)).heap.size by (try simp only [World.setCell, Array.size_setIfInBounds, Array.size_modify]); first | exact HT0.out | (simp [World.setCell]; exact HT0.out)))
 generalize ((w8.setCell ⟨g15, 0, none⟩ (.int .i64 fo)).setCell ⟨g15, 1, none⟩ (.slice A99_0 mo.length c99_0)) = w9 at G1 ⊢
 have G := G1; clear G1 GV hP hQ HB BK HS0 HT0
 go_upto_region 32 with (fail)
 have hk2_ := K2.out
 obtain ⟨zg15_0, zg15_1⟩ := G.at_.1.2
 obtain ⟨zg6_0, zg6_1⟩ := G.at_.1.1.1.1.1.1.1.1.1.1.1.1.1.1.1.1.2
 go_upto_region 34 with (first | ((with_reducible refine gate_callee (f := 23) rfl ?_); refine goesL_ (some 104) rfl rfl Try.func23 (by kernel_rfl) rfl #[.agg #[.int .i64 fo, .slice A99_0 mo.length c99_0], .agg #[.int .i64 fo, .slice A32_0 mo.length c32_0]] rfl (by (try simp only [List.map_toArray, List.map_cons, List.map_nil]); first | done | rfl) ?_; refine (laws_eqChain.calls k fo _ _ mo fo _ _ mo true _ (Kd.S_reads' G.at_.1.1.2).2.2 ((Kd.S_reads' G.at_.1.1.2).1 ▸ (Kd.S_reads' G.at_.1.1.2).2.1) (Kd.S_reads' G.at_.1.1.1.1.1.1.1.1.1.1.1.1.1.1.1.1.1.2).2.2 ((Kd.S_reads' G.at_.1.1.1.1.1.1.1.1.1.1.1.1.1.1.1.1.1.2).1 ▸ (Kd.S_reads' G.at_.1.1.1.1.1.1.1.1.1.1.1.1.1.1.1.1.1.2).2.1) F7.out).mono ?_; rintro e w1 ⟨rfl, hb⟩; refine ⟨_, rfl, ?_⟩; have G1 := (G.go hb); clear G hb; have G := G1; clear G1))
 (try clear zg15_0)
 (try clear zg15_1)
 (try clear zg6_0)
 (try clear zg6_1)
 go_upto_region 35 with (fail)
 obtain ⟨zg10_0, zg10_1⟩ := G.at_.1.1.1.1.2
 go_upto_region 36 with (first | ((with_reducible refine gate_callee (f := 27) rfl ?_); refine goesL_ (some 113) rfl rfl Try.func27 (by kernel_rfl) rfl #[.agg #[.int .i64 fo, .slice A42_0 m2.length c42_0], .int .i64 1] rfl (by (try simp only [List.map_toArray, List.map_cons, List.map_nil]); first | done | rfl | (simp only [HLA36_0.out, HLA38_0.out, HLA42_0.out]; rfl)) ?_; refine (laws_heldChain.calls k fo _ _ m2 1 e3 _ (Kd.S_reads' G.at_.1.1.1.1.1.1.2).2.2 ((Kd.S_reads' G.at_.1.1.1.1.1.1.2).1 ▸ (Kd.S_reads' G.at_.1.1.1.1.1.1.2).2.1) F13.out).mono ?_; rintro e w1 ⟨rfl, hb⟩; refine ⟨_, rfl, ?_⟩; have G1 := (G.go hb); clear G hb; have G := G1; clear G1))
 (try clear zg10_0)
 (try clear zg10_1)
 have hk4_ := K4.out
 go_upto_region 38 with (fail)
 have hk5_ := K5.out
 go_upto_region 40 with (fail)
 try go_wp2
 try go_wp2
 go_ret
 exact ⟨rfl, G.at_.1.1.1.1.1.1.1.1.1.1.1.1.1.1.1.1.1.1.1.1.1.1.1⟩
/-- What each call of the law gives, at rounds k. -/
def laws_FnExactPutChain.Facts (k : Nat) (a0_0 : Int) (l0_1 : List S62) (l1_0 : List S113) (a1_1 : Int) (a1_2 : Int) (a1_3 : ByteArray) : Prop := (∃ (q1 : Int), (laws_szChain.f k a0_0 l0_1 1048576 = some q1) ∧
  (decide (q1 < 0) = true)) ∨
  (∃ (q1 : Int) (q2 : Int), (laws_szChain.f k a0_0 l0_1 1048576 = some q1) ∧
  (laws_szAlarm.f k l1_0 a1_1 a1_2 a1_3 q1 = some q2) ∧
  (decide (q1 < 0) = false) ∧
  (decide (q2 < 0) = true)) ∨
  (∃ (q1 : Int) (q2 : Int) (fc : Int) (m0 : List (S26)) (la : List (S89)) (sa : Int) (ea : Int) (na : ByteArray) (fo : Int) (mo : List (S26)) (fr : Bool) (e1 : Int) (m1 : List (S26)) (e2 : Int) (lm : List (S89)) (e3 : Int) (m2 : List (S26)), (laws_szChain.f k a0_0 l0_1 1048576 = some q1) ∧
  (laws_szAlarm.f k l1_0 a1_1 a1_2 a1_3 q1 = some q2) ∧
  (laws_toChain.f k a0_0 l0_1 = some (fc, m0)) ∧
  (laws_toAlarm.f k l1_0 a1_1 a1_2 a1_3 = some (la, sa, ea, na)) ∧
  (spec_PutChain.f k fc m0 la sa ea na = some (fo, mo, fr)) ∧
  (impl_PutChain.f k fc m0 la sa ea na = some (fo, mo, fr)) ∧
  (laws_eqChain.f k fo mo fo mo = some true) ∧
  (laws_eqChain.f k fc m0 fc m0 = some true) ∧
  (laws_eqAlarm.f k la sa ea na la sa ea na = some true) ∧
  (laws_markChain.f k fc m0 1 = some (e1, m1)) ∧
  (laws_markAlarm.f k la sa ea na e1 = some (e2, lm)) ∧
  (laws_markChain.f k fo mo 1 = some (e3, m2)) ∧
  (laws_heldChain.f k fo m2 1 = some e3) ∧
  (decide (q1 < 0) = false) ∧
  (decide (q2 < 0) = false) ∧
  ((fr != fr) = false) ∧
  (decide (e2 < 0) = false) ∧
  (decide (e3 < 0) = false) ∧
  ((e3 != e3) = false))
open Classical in
/-- What the law gives: true, where each call gives what the way wants. -/
noncomputable def laws_FnExactPutChain.f (k : Nat) (a0_0 : Int) (l0_1 : List S62) (l1_0 : List S113) (a1_1 : Int) (a1_2 : Int) (a1_3 : ByteArray) : Option (Bool) := if laws_FnExactPutChain.Facts k a0_0 l0_1 l1_0 a1_1 a1_2 a1_3 then some true else none
theorem laws_FnExactPutChain.f_of {k : Nat} {a0_0 : Int} {l0_1 : List S62} {l1_0 : List S113} {a1_1 : Int} {a1_2 : Int} {a1_3 : ByteArray} (h : laws_FnExactPutChain.Facts k a0_0 l0_1 l1_0 a1_1 a1_2 a1_3) : laws_FnExactPutChain.f k a0_0 l0_1 l1_0 a1_1 a1_2 a1_3 = some true := if_pos h
theorem laws_FnExactPutChain.calls (k : Nat) (a0_0 : Int) (A0_1 : Option Addr) (c0_1 : Nat) (l0_1 : List S62) (A1_0 : Option Addr) (c1_0 : Nat) (l1_0 : List S113) (a1_1 : Int) (a1_2 : Int) (a1_3 : ByteArray) (r : Bool) (w : World) (hr0_1 : Kd.C k62 w A0_1 l0_1.length l0_1) (hc0_1 : l0_1.length ≤ c0_1) (hr1_0 : Kd.C k113 w A1_0 l1_0.length l1_0) (hc1_0 : l1_0.length ≤ c1_0) (hr_ : Aside0 (r = true)) (h : laws_FnExactPutChain.f k a0_0 l0_1 l1_0 a1_1 a1_2 a1_3 = some r) :
    Calls Try.prog 6 #[.agg #[.int .i64 a0_0, .slice A0_1 l0_1.length c0_1], .agg #[.slice A1_0 l1_0.length c1_0, .int .i64 a1_1, .int .i64 a1_2, .string a1_3]] w fun e w' => e = .returned (.bool r) ∧ Below w.heap.size w w' := by
 unfold laws_FnExactPutChain.f at h
 by_cases hf : laws_FnExactPutChain.Facts k a0_0 l0_1 l1_0 a1_1 a1_2 a1_3
 · rw [if_pos hf] at h
   obtain rfl := Option.some.inj h
   rcases hf with hf | hf | hf
   · obtain ⟨q1, h_0, h_1⟩ := hf
     exact laws_FnExactPutChain.early1 k a0_0 A0_1 c0_1 l0_1 A1_0 c1_0 l1_0 a1_1 a1_2 a1_3 w hr0_1 hc0_1 hr1_0 hc1_0 q1 ⟨h_0⟩ ⟨h_1⟩
   · obtain ⟨q1, q2, h_0, h_1, h_2, h_3⟩ := hf
     exact laws_FnExactPutChain.early2 k a0_0 A0_1 c0_1 l0_1 A1_0 c1_0 l1_0 a1_1 a1_2 a1_3 w hr0_1 hc0_1 hr1_0 hc1_0 q1 q2 ⟨h_0⟩ ⟨h_1⟩ ⟨h_2⟩ ⟨h_3⟩
   · obtain ⟨q1, q2, fc, m0, la, sa, ea, na, fo, mo, fr, e1, m1, e2, lm, e3, m2, h_0, h_1, h_2, h_3, h_4, h_5, h_6, h_7, h_8, h_9, h_10, h_11, h_12, h_13, h_14, h_15, h_16, h_17, h_18⟩ := hf
     exact laws_FnExactPutChain.way k a0_0 A0_1 c0_1 l0_1 A1_0 c1_0 l1_0 a1_1 a1_2 a1_3 w hr0_1 hc0_1 hr1_0 hc1_0 q1 q2 fc m0 la sa ea na fo mo fr e1 m1 e2 lm e3 m2 ⟨h_0⟩ ⟨h_1⟩ ⟨h_2⟩ ⟨h_3⟩ ⟨h_4⟩ ⟨h_5⟩ ⟨h_6⟩ ⟨h_7⟩ ⟨h_8⟩ ⟨h_9⟩ ⟨h_10⟩ ⟨h_11⟩ ⟨h_12⟩ ⟨h_13⟩ ⟨h_14⟩ ⟨h_15⟩ ⟨h_16⟩ ⟨h_17⟩ ⟨h_18⟩
 · rw [if_neg hf] at h
   cases h
end Go.Proofs.Ytgindocfjoalhaa.PFnExactPutChain
