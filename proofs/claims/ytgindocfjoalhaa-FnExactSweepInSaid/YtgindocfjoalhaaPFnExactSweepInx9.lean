/- That FnExactSweepIn answers true, out of what each of its calls gives; no conditions. -/
import Derived.Test.YtgindocfjoalhaaPFnExactSweepInx0
import Derived.Test.YtgindocfjoalhaaPFnExactSweepInx1
import Derived.Test.YtgindocfjoalhaaPFnExactSweepInx2
import Derived.Test.YtgindocfjoalhaaPFnExactSweepInx3
import Derived.Test.YtgindocfjoalhaaPFnExactSweepInx4
import Derived.Test.YtgindocfjoalhaaPFnExactSweepInx5
import Derived.Test.YtgindocfjoalhaaPFnExactSweepInx6
import Derived.Test.YtgindocfjoalhaaPFnExactSweepInx7
import Derived.Test.YtgindocfjoalhaaPFnExactSweepInx8
namespace Go.Proofs.Ytgindocfjoalhaa.PFnExactSweepIn
open Go.RowKit Go.Proofs.YtgindocfjoalhaaW.PrintWords Go.Proofs.YtgindocfjoalhaaW.PrintLast Go.Proofs.YtgindocfjoalhaaW.PrintMore
attribute [local go_sem] max2_int min2_int max_two min_two max_three min_three max_four min_four   -- for this text's walks alone
set_option linter.unusedVariables false
set_option linter.unusedSimpArgs false

/-- What is told of the world stays told where only new blocks come up. -/
structure Gs (Φ : World → Prop) (W : World) : Prop where
  at_ : Φ W
  st : ∀ {V V' : World}, Below V.heap.size V V' → Φ V → Φ V'
theorem Gs.go {Φ : World → Prop} {W W' : World} (h : Gs Φ W) (hb : Below W.heap.size W W') : Gs Φ W' := ⟨h.st hb h.at_, h.st⟩
theorem Gs.add {Φ Ψ : World → Prop} {W : World} (h : Gs Φ W) (k : Gs Ψ W) : Gs (fun w => Φ w ∧ Ψ w) W := ⟨⟨h.at_, k.at_⟩, fun hb hp => ⟨h.st hb hp.1, k.st hb hp.2⟩⟩
theorem Gs.left {Φ Ψ : World → Prop} {W : World} (h : Gs Φ W) (hd : ∀ {V V' : World}, Below V.heap.size V V' → Ψ V → Ψ V') (hk : ∀ w, Φ w → Ψ w) : Gs Ψ W := ⟨hk W h.at_, hd⟩
theorem Gs.hide {Φ : World → Prop} {W : World} {C : Prop} (G : Gs Φ W) (h : ∀ Ψ : World → Prop, Gs Ψ W → (∀ V, Ψ V → Φ V) → (∀ V, Gs Ψ V → Gs Φ V) → C) : C := h Φ G (fun _ h => h) (fun _ h => h)
theorem Gs.below (w : World) : Gs (fun W => Below w.heap.size w W) w := ⟨Below.refl _ _, fun hb h => below_step h hb⟩
theorem Gs.cell {a : Addr} {v : Value} {W : World} (h : W.cell? a = some v) : Gs (fun W => W.cell? a = some v) W := ⟨h, fun hb h => pw_cell_below hb h⟩
theorem Gs.row {α : Type} {d : Kd α} {A : Option Addr} {n : Nat} {xs : List α} {W : World} (h : d.C W A n xs) : Gs (fun W => d.C W A n xs) W := ⟨h, fun hb h => Kd.C_below h hb⟩
def box4 (g : Nat) (b0 b1 b2 b3 : Value) (w : World) : Prop := w.cell? ⟨g, 0, none⟩ = some b0 ∧ w.cell? ⟨g, 1, none⟩ = some b1 ∧ w.cell? ⟨g, 2, none⟩ = some b2 ∧ w.cell? ⟨g, 3, none⟩ = some b3
theorem Gs.ofBox4 {g : Nat} {t : TypeId} {b0 b1 b2 b3 : Value} {W : World} (h : W.heap[g]? = some (.cells #[b0, b1, b2, b3] t (0, 0))) : Gs (box4 g b0 b1 b2 b3) W :=
  ⟨⟨(blk_cell h 0).trans rfl, (blk_cell h 1).trans rfl, (blk_cell h 2).trans rfl, (blk_cell h 3).trans rfl⟩, fun hb h => ⟨pw_cell_below hb h.1, pw_cell_below hb h.2.1, pw_cell_below hb h.2.2.1, pw_cell_below hb h.2.2.2⟩⟩
theorem set4_blk {W : World} {g : Nat} {t : TypeId} {c0 c1 c2 c3 b0 b1 b2 b3 : Value} (h : W.heap[g]? = some (.cells #[c0, c1, c2, c3] t (0, 0))) :
    ((((W.setCell ⟨g, 0, none⟩ b0).setCell ⟨g, 1, none⟩ b1).setCell ⟨g, 2, none⟩ b2).setCell ⟨g, 3, none⟩ b3).heap[g]? = some (.cells #[b0, b1, b2, b3] t (0, 0)) :=
  blk_put (blk_put (blk_put (blk_put h 0 b0 rfl) 1 b1 rfl) 2 b2 rfl) 3 b3 rfl
theorem set4_far {W : World} {g k : Nat} {o : Obj} {b0 b1 b2 b3 : Value} (h : W.heap[k]? = some o) (hk : k ≠ g) :
    ((((W.setCell ⟨g, 0, none⟩ b0).setCell ⟨g, 1, none⟩ b1).setCell ⟨g, 2, none⟩ b2).setCell ⟨g, 3, none⟩ b3).heap[k]? = some o :=
  (Below.heap_setCell _ ⟨g, 3, none⟩ b3 k hk).trans ((Below.heap_setCell _ ⟨g, 2, none⟩ b2 k hk).trans ((Below.heap_setCell _ ⟨g, 1, none⟩ b1 k hk).trans ((Below.heap_setCell _ ⟨g, 0, none⟩ b0 k hk).trans h)))
theorem set4_below {V W : World} {g : Nat} {b0 b1 b2 b3 : Value} (h : Below V.heap.size V W) (hg : V.heap.size ≤ g) :
    Below V.heap.size V ((((W.setCell ⟨g, 0, none⟩ b0).setCell ⟨g, 1, none⟩ b1).setCell ⟨g, 2, none⟩ b2).setCell ⟨g, 3, none⟩ b3) :=
  below_set (below_set (below_set (below_set h hg) hg) hg) hg
/-- A variable of four cells, made and written. -/
theorem Gs.put4 {Φ : World → Prop} {V W : World} {g : Nat} {t : TypeId} {c0 c1 c2 c3 : Value} (b0 b1 b2 b3 : Value) (G : Gs Φ V) (hb : Aside0 (Below V.heap.size V W)) (hg : Aside0 (g = V.heap.size)) (hx : Aside0 (W.heap[g]? = some (.cells #[c0, c1, c2, c3] t (0, 0)))) :
    Gs (fun w => Φ w ∧ box4 g b0 b1 b2 b3 w) ((((W.setCell ⟨g, 0, none⟩ b0).setCell ⟨g, 1, none⟩ b1).setCell ⟨g, 2, none⟩ b2).setCell ⟨g, 3, none⟩ b3) :=
  (G.go (set4_below hb.out (Nat.le_of_eq hg.out.symm))).add (Gs.ofBox4 (set4_blk hx.out))
/-- Two variables of four cells, made, then written. -/
theorem Gs.put44 {Φ : World → Prop} {V W X : World} {g g' : Nat} {t t' : TypeId} {c0 c1 c2 c3 c0' c1' c2' c3' : Value} (b0 b1 b2 b3 b0' b1' b2' b3' : Value) (G : Gs Φ V) (hb : Aside0 (Below V.heap.size V W)) (hg : Aside0 (g = V.heap.size)) (hx : Aside0 (W.heap[g]? = some (.cells #[c0, c1, c2, c3] t (0, 0))))
    (hb' : Aside0 (Below W.heap.size W X)) (hg' : Aside0 (g' = W.heap.size)) (hx' : Aside0 (X.heap[g']? = some (.cells #[c0', c1', c2', c3'] t' (0, 0)))) :
    Gs (fun w => (Φ w ∧ box4 g b0 b1 b2 b3 w) ∧ box4 g' b0' b1' b2' b3' w) ((((((((X.setCell ⟨g, 0, none⟩ b0).setCell ⟨g, 1, none⟩ b1).setCell ⟨g, 2, none⟩ b2).setCell ⟨g, 3, none⟩ b3).setCell ⟨g', 0, none⟩ b0').setCell ⟨g', 1, none⟩ b1').setCell ⟨g', 2, none⟩ b2').setCell ⟨g', 3, none⟩ b3') := by
  have hlt := blk_lt hx.out
  have hne : g ≠ g' := by rw [hg'.out]; omega
  have e1 : V.heap.size ≤ g := Nat.le_of_eq hg.out.symm
  have e2 : V.heap.size ≤ g' := by rw [hg'.out]; exact hb.out.size
  exact ((G.go (set4_below (set4_below (below_step hb.out hb'.out) e1) e2)).add (Gs.ofBox4 (set4_far (set4_blk (blk_below hx.out hb'.out)) hne))).add (Gs.ofBox4 (set4_blk (set4_far hx'.out (Ne.symm hne))))
section
open Go.Proofs.YtgindocfjoalhaaW.PrintLast
variable {P : Program} {ops : Array Oper} {Q : Exit → Act → World → Prop} {Φ : World → Prop} {n m fuel : Nat} {a : Act} {w : World} {T : Bool × List (List Nat × List Nat)} {B : List Nat}
theorem bz_nil (n : Nat) : Array.replicate n false = bz n 0 := by
  unfold bz
  rw [List.map_eq_replicate_iff.2 (fun x _ => Nat.zero_testBit x)]
  simp
/-- A region that draws its order, at its head. -/
theorem reg {id : Nat} (G : Gs Φ w) (hm : P.follows .mixedOrders = true) (hn : ops.size = n) (hT : rtab .any ops = T) (hB : waitsOk T.2 B = true)
    (h : ∀ W, Below w.heap.size w W → Gs Φ W → Aside0 (rtab .any ops = T) → Aside0 (waitsOk T.2 B = true) → wpAnyLast P .any ops Q Φ [] n (bz n 0) a W) : (Code.region id ops true).wp P Q a w :=
  start_ (bz n 0) hm hn (bz_nil n) (G.go (below_drew (Below.refl _ _))).at_ (fun _ => h _ (below_drew (Below.refl _ _)) (G.go (below_drew (Below.refl _ _))) ⟨hT⟩ ⟨hB⟩)
/-- A call in such a region. -/
theorem rc {oi : Oper} (i : Nat) (t : Tmp) (m' : Nat) (HT : Aside0 (rtab .any ops = T)) (hi : ops[i]? = some oi) (hN : oi.dst = some t) (hc : (readyT T.2 (bz n m).toList == [i] && (bz n m).toList.set i true == (bz n m').toList) = true)
    {f : FuncId} {fn : Func} {ars : Array Operand} {ts : Array TypeId} (hf : P.funcs[f]? = some fn) (hname : (fn.name == "runtime.NumGoroutine") = false) (hb : fn.body.isSome = true) (hop : oi.op = .call { callee := .value (.func f), args := ars, argTypes := ts }) (args : Array Value)
    (hw : Region.wanted oi (yielded ops a.tmps) = true) (hargs : ars.map a.eval = args)
    (h : Calls P f args w fun e w' => ∃ v, e = .returned v ∧ Φ w' ∧ ∀ a', a.put (some t) v = a' → wpAnyLast P .any ops Q Φ [] fuel (bz n m') a' w') : wpAnyLast P .any ops Q Φ [] (fuel + 1) (bz n m) a w := by
  refine one_ (bz n m') hi hN (one_of HT.out hc) (by simp) (fun K hK => ?_)
  refine goes_ hf hname hb args hw hN hop hargs (h.mono fun e w' hh => ?_)
  obtain ⟨v, he, hp, hr⟩ := hh
  exact ⟨v, he, hK.out _ _ hp (fun _ => hr _ rfl)⟩
end
/-- Block numbers from lo to hi. -/
def Iv (lo hi k : Nat) : Prop := lo ≤ k ∧ k < hi
theorem Gs.top {T : Nat} {W : World} (h : T ≤ W.heap.size) : Gs (fun W => T ≤ W.heap.size) W := ⟨h, fun hb h => Nat.le_trans h hb.size⟩
theorem Gs.bel {w W : World} (h : Below w.heap.size w W) : Gs (fun W => Below w.heap.size w W) W := ⟨h, fun hb h => below_step h hb⟩
theorem Gs.ownS {α : Type} {d : Kd α} {e base : Nat} {ok : Nat → Prop} {v : Value} {xs : List α} {W : World} (h : Kd.S d e W base ok v xs) : Gs (fun W => Kd.S d e W base ok v xs) W := ⟨h, fun hb h => Kd.S_below h hb⟩
theorem Gs.ownR {α : Type} {d : Kd α} {e base : Nat} {ok : Nat → Prop} {v : Value} {xs : List α} {W : World} (h : d.R e W base ok v xs) : Gs (fun W => d.R e W base ok v xs) W := ⟨h, fun hb h => Kd.R_below h hb⟩
theorem newS {α : Type} {d : Kd α} {e T : Nat} {w0 W w1 : World} {ok : Nat → Prop} {v : Value} {xs : List α} (hT : T ≤ W.heap.size) (hb0 : Below w0.heap.size w0 W) (hb : Below W.heap.size W w1) (h : Kd.S d e w1 W.heap.size ok v xs) : ∃ lo hi, (T ≤ lo ∧ lo ≤ hi) ∧ hi ≤ w1.heap.size ∧ Kd.S d e w1 w0.heap.size (Iv lo hi) v xs :=
  ⟨W.heap.size, w1.heap.size, ⟨hT, hb.size⟩, Nat.le_refl _, Kd.S_lower (Kd.S_mono (Kd.S_bound h) (fun k hk => ⟨hk.2.1, hk.2.2.1⟩)) hb0.size⟩
theorem newR {α : Type} {d : Kd α} {e T : Nat} {w0 W w1 : World} {ok : Nat → Prop} {v : Value} {xs : List α} (hT : T ≤ W.heap.size) (hb0 : Below w0.heap.size w0 W) (hb : Below W.heap.size W w1) (h : d.R e w1 W.heap.size ok v xs) : ∃ lo hi, (T ≤ lo ∧ lo ≤ hi) ∧ hi ≤ w1.heap.size ∧ d.R e w1 w0.heap.size (Iv lo hi) v xs :=
  ⟨W.heap.size, w1.heap.size, ⟨hT, hb.size⟩, Nat.le_refl _, Kd.R_lower (Kd.R_mono (Kd.R_bound h) (fun k hk => ⟨hk.2.1, hk.2.2.1⟩)) hb0.size⟩
theorem new2 {α β : Type} {d : Kd α} {d' : Kd β} {e e' T : Nat} {w0 W w1 : World} {ok ok' : Nat → Prop} {v v' : Value} {xs : List α} {ys : List β} (hT : T ≤ W.heap.size) (hb0 : Below w0.heap.size w0 W) (hb : Below W.heap.size W w1) (h : Kd.S d e w1 W.heap.size ok v xs) (h' : Kd.S d' e' w1 W.heap.size ok' v' ys) : ∃ lo hi, (T ≤ lo ∧ lo ≤ hi) ∧ hi ≤ w1.heap.size ∧ Kd.S d e w1 w0.heap.size (fun k_ => Iv lo hi k_) v xs ∧ Kd.S d' e' w1 w0.heap.size (fun k_ => Iv lo hi k_) v' ys :=
  ⟨W.heap.size, w1.heap.size, ⟨hT, hb.size⟩, Nat.le_refl _, Kd.S_lower (Kd.S_mono (Kd.S_bound h) (fun k hk => ⟨hk.2.1, hk.2.2.1⟩)) hb0.size, Kd.S_lower (Kd.S_mono (Kd.S_bound h') (fun k hk => ⟨hk.2.1, hk.2.2.1⟩)) hb0.size⟩
theorem new2P {α β : Type} {d : Kd α} {d' : Kd β} {e e' T : Nat} {w0 W w1 : World} {P : Nat → Prop} {v v' : Value} {xs : List α} {ys : List β} (hT : T ≤ W.heap.size) (hb0 : Below w0.heap.size w0 W) (hb : Below W.heap.size W w1) (h : Kd.S d e w1 W.heap.size (fun k_ => P k_) v xs) (h' : Kd.S d' e' w1 W.heap.size (fun k_ => ¬ P k_) v' ys) : ∃ lo hi, (T ≤ lo ∧ lo ≤ hi) ∧ hi ≤ w1.heap.size ∧ Kd.S d e w1 w0.heap.size (fun k_ => Iv lo hi k_ ∧ P k_) v xs ∧ Kd.S d' e' w1 w0.heap.size (fun k_ => Iv lo hi k_ ∧ ¬ P k_) v' ys :=
  ⟨W.heap.size, w1.heap.size, ⟨hT, hb.size⟩, Nat.le_refl _, Kd.S_lower (Kd.S_mono (Kd.S_bound h) (fun k hk => ⟨⟨hk.2.1, hk.2.2.1⟩, hk.1⟩)) hb0.size, Kd.S_lower (Kd.S_mono (Kd.S_bound h') (fun k hk => ⟨⟨hk.2.1, hk.2.2.1⟩, hk.1⟩)) hb0.size⟩
theorem Gs.blk {g : Nat} {t : TypeId} {cs : Array Value} {W : World} (h : W.heap[g]? = some (.cells cs t (0, 0))) : Gs (fun W => W.heap[g]? = some (.cells cs t (0, 0))) W := ⟨h, fun hb h => blk_below h hb⟩
def box2 (g : Nat) (b0 b1 : Value) (w : World) : Prop := w.cell? ⟨g, 0, none⟩ = some b0 ∧ w.cell? ⟨g, 1, none⟩ = some b1
theorem Gs.ofBox2 {g : Nat} {t : TypeId} {b0 b1 : Value} {W : World} (h : W.heap[g]? = some (.cells #[b0, b1] t (0, 0))) : Gs (box2 g b0 b1) W := ⟨⟨(blk_cell h 0).trans rfl, (blk_cell h 1).trans rfl⟩, fun hb h => ⟨pw_cell_below hb h.1, pw_cell_below hb h.2⟩⟩
theorem set2_blk {W : World} {g : Nat} {t : TypeId} {c0 c1 b0 b1 : Value} (hx : W.heap[g]? = some (.cells #[c0, c1] t (0, 0))) : ((W.setCell ⟨g, 0, none⟩ b0).setCell ⟨g, 1, none⟩ b1).heap[g]? = some (.cells #[b0, b1] t (0, 0)) := (blk_put (blk_put hx 0 b0 rfl) 1 b1 rfl)
theorem set2_far {W : World} {g k : Nat} {o : Obj} {b0 b1 : Value} (h : W.heap[k]? = some o) (hk : k ≠ g) : ((W.setCell ⟨g, 0, none⟩ b0).setCell ⟨g, 1, none⟩ b1).heap[k]? = some o := ((Below.heap_setCell _ ⟨g, 1, none⟩ b1 k hk).trans ((Below.heap_setCell _ ⟨g, 0, none⟩ b0 k hk).trans h))
theorem set2_below {V W : World} {g : Nat} {b0 b1 : Value} (h : Below V.heap.size V W) (hg : V.heap.size ≤ g) : Below V.heap.size V ((W.setCell ⟨g, 0, none⟩ b0).setCell ⟨g, 1, none⟩ b1) := (below_set (below_set h hg) hg)
theorem Gs.put2 {Φ : World → Prop} {V W : World} {g : Nat} {t : TypeId} {c0 c1 : Value} (b0 b1 : Value) (G : Gs Φ V) (hb : Aside0 (Below V.heap.size V W)) (hg : Aside0 (g = V.heap.size)) (hx : Aside0 (W.heap[g]? = some (.cells #[c0, c1] t (0, 0)))) :
    Gs (fun w => Φ w ∧ box2 g b0 b1 w) ((W.setCell ⟨g, 0, none⟩ b0).setCell ⟨g, 1, none⟩ b1) :=
  (G.go (set2_below hb.out (Nat.le_of_eq hg.out.symm))).add (Gs.ofBox2 (set2_blk hx.out))
theorem box2_kept {g : Nat} {b0 b1 : Value} {W W2 : World} {S : Nat → Prop} (h : box2 g b0 b1 W) (hk : Kept W W2 S) (hn : ¬ S g) : box2 g b0 b1 W2 := ⟨cell_kept h.1 hk hn, cell_kept h.2 hk hn⟩
theorem Gs.ofB2 {g : Nat} {b0 b1 : Value} {W : World} (h : box2 g b0 b1 W) : Gs (box2 g b0 b1) W := ⟨h, fun hb h => ⟨pw_cell_below hb h.1, pw_cell_below hb h.2⟩⟩
def box3 (g : Nat) (b0 b1 b2 : Value) (w : World) : Prop := w.cell? ⟨g, 0, none⟩ = some b0 ∧ w.cell? ⟨g, 1, none⟩ = some b1 ∧ w.cell? ⟨g, 2, none⟩ = some b2
theorem Gs.ofBox3 {g : Nat} {t : TypeId} {b0 b1 b2 : Value} {W : World} (h : W.heap[g]? = some (.cells #[b0, b1, b2] t (0, 0))) : Gs (box3 g b0 b1 b2) W := ⟨⟨(blk_cell h 0).trans rfl, (blk_cell h 1).trans rfl, (blk_cell h 2).trans rfl⟩, fun hb h => ⟨pw_cell_below hb h.1, pw_cell_below hb h.2.1, pw_cell_below hb h.2.2⟩⟩
theorem set3_blk {W : World} {g : Nat} {t : TypeId} {c0 c1 c2 b0 b1 b2 : Value} (hx : W.heap[g]? = some (.cells #[c0, c1, c2] t (0, 0))) : (((W.setCell ⟨g, 0, none⟩ b0).setCell ⟨g, 1, none⟩ b1).setCell ⟨g, 2, none⟩ b2).heap[g]? = some (.cells #[b0, b1, b2] t (0, 0)) := (blk_put (blk_put (blk_put hx 0 b0 rfl) 1 b1 rfl) 2 b2 rfl)
theorem set3_far {W : World} {g k : Nat} {o : Obj} {b0 b1 b2 : Value} (h : W.heap[k]? = some o) (hk : k ≠ g) : (((W.setCell ⟨g, 0, none⟩ b0).setCell ⟨g, 1, none⟩ b1).setCell ⟨g, 2, none⟩ b2).heap[k]? = some o := ((Below.heap_setCell _ ⟨g, 2, none⟩ b2 k hk).trans ((Below.heap_setCell _ ⟨g, 1, none⟩ b1 k hk).trans ((Below.heap_setCell _ ⟨g, 0, none⟩ b0 k hk).trans h)))
theorem set3_below {V W : World} {g : Nat} {b0 b1 b2 : Value} (h : Below V.heap.size V W) (hg : V.heap.size ≤ g) : Below V.heap.size V (((W.setCell ⟨g, 0, none⟩ b0).setCell ⟨g, 1, none⟩ b1).setCell ⟨g, 2, none⟩ b2) := (below_set (below_set (below_set h hg) hg) hg)
theorem Gs.put3 {Φ : World → Prop} {V W : World} {g : Nat} {t : TypeId} {c0 c1 c2 : Value} (b0 b1 b2 : Value) (G : Gs Φ V) (hb : Aside0 (Below V.heap.size V W)) (hg : Aside0 (g = V.heap.size)) (hx : Aside0 (W.heap[g]? = some (.cells #[c0, c1, c2] t (0, 0)))) :
    Gs (fun w => Φ w ∧ box3 g b0 b1 b2 w) (((W.setCell ⟨g, 0, none⟩ b0).setCell ⟨g, 1, none⟩ b1).setCell ⟨g, 2, none⟩ b2) :=
  (G.go (set3_below hb.out (Nat.le_of_eq hg.out.symm))).add (Gs.ofBox3 (set3_blk hx.out))
theorem box3_kept {g : Nat} {b0 b1 b2 : Value} {W W2 : World} {S : Nat → Prop} (h : box3 g b0 b1 b2 W) (hk : Kept W W2 S) (hn : ¬ S g) : box3 g b0 b1 b2 W2 := ⟨cell_kept h.1 hk hn, cell_kept h.2.1 hk hn, cell_kept h.2.2 hk hn⟩
theorem Gs.ofB3 {g : Nat} {b0 b1 b2 : Value} {W : World} (h : box3 g b0 b1 b2 W) : Gs (box3 g b0 b1 b2) W := ⟨h, fun hb h => ⟨pw_cell_below hb h.1, pw_cell_below hb h.2.1, pw_cell_below hb h.2.2⟩⟩
theorem box4_kept {g : Nat} {b0 b1 b2 b3 : Value} {W W2 : World} {S : Nat → Prop} (h : box4 g b0 b1 b2 b3 W) (hk : Kept W W2 S) (hn : ¬ S g) : box4 g b0 b1 b2 b3 W2 := ⟨cell_kept h.1 hk hn, cell_kept h.2.1 hk hn, cell_kept h.2.2.1 hk hn, cell_kept h.2.2.2 hk hn⟩
theorem Gs.ofB4 {g : Nat} {b0 b1 b2 b3 : Value} {W : World} (h : box4 g b0 b1 b2 b3 W) : Gs (box4 g b0 b1 b2 b3) W := ⟨h, fun hb h => ⟨pw_cell_below hb h.1, pw_cell_below hb h.2.1, pw_cell_below hb h.2.2.1, pw_cell_below hb h.2.2.2⟩⟩
section
open Go.Proofs.YtgindocfjoalhaaW.PrintLast
variable {P : Program} {ops : Array Oper} {Q : Exit → Act → World → Prop} {Φ : World → Prop} {n m fuel : Nat} {a : Act} {w : World} {T : Bool × List (List Nat × List Nat)} {B : List Nat} {ds : List Nat}
/-- A region that draws its order, at its head; ds: what is done last. -/
theorem regD {id : Nat} (ds : List Nat) (G : Gs Φ w) (hm : P.follows .mixedOrders = true) (hn : ops.size = n) (hT : rtab .any ops = T) (hB : waitsOk T.2 B = true)
    (h : ∀ W, Below w.heap.size w W → Gs Φ W → Aside0 (rtab .any ops = T) → Aside0 (waitsOk T.2 B = true) → wpAnyLast P .any ops Q Φ ds n (bz n 0) a W) : (Code.region id ops true).wp P Q a w :=
  start_ (bz n 0) hm hn (bz_nil n) (G.go (below_drew (Below.refl _ _))).at_ (fun _ => h _ (below_drew (Below.refl _ _)) (G.go (below_drew (Below.refl _ _))) ⟨hT⟩ ⟨hB⟩)
/-- A call in such a region. -/
theorem rcD {oi : Oper} (i : Nat) (t : Tmp) (m' : Nat) (HT : Aside0 (rtab .any ops = T)) (hi : ops[i]? = some oi) (hN : oi.dst = some t) (hd : i ∉ ds) (hc : (readyT T.2 (bz n m).toList == [i] && (bz n m).toList.set i true == (bz n m').toList) = true)
    {f : FuncId} {fn : Func} {ars : Array Operand} {ts : Array TypeId} (hf : P.funcs[f]? = some fn) (hname : (fn.name == "runtime.NumGoroutine") = false) (hb : fn.body.isSome = true) (hop : oi.op = .call { callee := .value (.func f), args := ars, argTypes := ts }) (args : Array Value)
    (hw : Region.wanted oi (yielded ops a.tmps) = true) (hargs : ars.map a.eval = args)
    (h : Calls P f args w fun e w' => ∃ v, e = .returned v ∧ Φ w' ∧ ∀ a', a.put (some t) v = a' → wpAnyLast P .any ops Q Φ ds fuel (bz n m') a' w') : wpAnyLast P .any ops Q Φ ds (fuel + 1) (bz n m) a w := by
  refine one_ (bz n m') hi hN (one_of HT.out hc) hd (fun K hK => ?_)
  refine goes_ hf hname hb args hw hN hop hargs (h.mono fun e w' hh => ?_)
  obtain ⟨v, he, hp, hr⟩ := hh
  exact ⟨v, he, hK.out _ _ hp (fun _ => hr _ rfl)⟩
/-- A block made in a region that draws its order. -/
theorem raD {oi : Oper} (i : Nat) (t : Tmp) (m' : Nat) (v : Nat → Value) (cs : Array Value) (ty : TypeId) (HT : Aside0 (rtab .any ops = T)) (hi : ops[i]? = some oi) (hN : oi.dst = some t) (hd : i ∉ ds) (hc : (readyT T.2 (bz n m).toList == [i] && (bz n m).toList.set i true == (bz n m').toList) = true) (G : Gs Φ w)
    (hw : Region.wanted oi (yielded ops a.tmps) = true) (hrun : (execOp a.eval oi).run P w = .ok (.value (v w.heap.size)) (w.alloc (.cells cs ty (0, 0))))
    (h : ∀ g w2, g = w.heap.size → w2.heap[g]? = some (.cells cs ty (0, 0)) → Below w.heap.size w w2 → Gs Φ w2 → ∀ a', a.put (some t) (v g) = a' → wpAnyLast P .any ops Q Φ ds fuel (bz n m') a' w2) : wpAnyLast P .any ops Q Φ ds (fuel + 1) (bz n m) a w := by
  refine one_ (bz n m') hi hN (one_of HT.out hc) hd (fun K hK => ?_)
  refine value_ hw hN hrun ?_
  exact hK.out _ _ (G.go (below_alloc (Below.refl _ _) _)).at_ (fun _ => h _ _ rfl (blk_new w _) (below_alloc (Below.refl _ _) _) (G.go (below_alloc (Below.refl _ _) _)) _ rfl)
/-- A call and a variable's making, both of which may come up. -/
theorem tcD {oi oj : Oper} (i : Nat) (t : Tmp) (mi : Nat) (j : Nat) (tj : Tmp) (mj : Nat) (v : Nat → Value) (cs : Array Value) (ty : TypeId) (HT : Aside0 (rtab .any ops = T)) (hi : ops[i]? = some oi) (hj : ops[j]? = some oj) (hN : oi.dst = some t) (hNj : oj.dst = some tj) (hd : i ∉ ds) (hdj : j ∉ ds)
    (hc : (readyT T.2 (bz n m).toList == [i, j] && (bz n m).toList.set i true == (bz n mi).toList && (bz n m).toList.set j true == (bz n mj).toList) = true)
    {f : FuncId} {fn : Func} {ars : Array Operand} {ts : Array TypeId} (hf : P.funcs[f]? = some fn) (hname : (fn.name == "runtime.NumGoroutine") = false) (hb : fn.body.isSome = true) (hop : oi.op = .call { callee := .value (.func f), args := ars, argTypes := ts }) (args : Array Value)
    (hw : Region.wanted oi (yielded ops a.tmps) = true) (hargs : ars.map a.eval = args) (G : Gs Φ w) (hwj : Region.wanted oj (yielded ops a.tmps) = true) (hrun : (execOp a.eval oj).run P w = .ok (.value (v w.heap.size)) (w.alloc (.cells cs ty (0, 0))))
    (h1 : Calls P f args w fun e w' => ∃ v, e = .returned v ∧ Φ w' ∧ ∀ a', a.put (some t) v = a' → wpAnyLast P .any ops Q Φ ds fuel (bz n mi) a' w')
    (h2 : ∀ g w2, g = w.heap.size → w2.heap[g]? = some (.cells cs ty (0, 0)) → Below w.heap.size w w2 → ∀ a', a.put (some tj) (v g) = a' → wpAnyLast P .any ops Q Φ ds fuel (bz n mj) a' w2) : wpAnyLast P .any ops Q Φ ds (fuel + 1) (bz n m) a w := by
  refine two_ (bz n mi) (bz n mj) hi hj hN hNj (two_of HT.out hc) hd hdj (fun K hK => ?_) (fun K hK => ?_)
  · refine goes_ hf hname hb args hw hN hop hargs (h1.mono fun e w' hh => ?_)
    obtain ⟨v, he, hp, hr⟩ := hh
    exact ⟨v, he, hK.out _ _ hp (fun _ => hr _ rfl)⟩
  · refine value_ hwj hNj hrun ?_
    exact hK.out _ _ (G.go (below_alloc (Below.refl _ _) _)).at_ (fun _ => h2 _ _ rfl (blk_new w _) (below_alloc (Below.refl _ _) _) _ rfl)
/-- A store that is done last. -/
theorem lsD {oi : Oper} (i : Nat) (m' : Nat) (w1 : World) (HT : Aside0 (rtab .any ops = T)) (hi : ops[i]? = some oi) (hN : oi.dst = none) (hd : i ∈ ds) (hc : (readyT T.2 (bz n m).toList == [i] && (bz n m).toList.set i true == (bz n m').toList) = true)
    (hw : Region.wanted oi (yielded ops a.tmps) = true) (hrun : (execOp a.eval oi).run P w = .ok .skip w1) (h : wpAnyLast P .any ops Q Φ ds fuel (bz n m') a w1) : wpAnyLast P .any ops Q Φ ds (fuel + 1) (bz n m) a w := by
  refine last_ (bz n m') hi hN (one_of HT.out hc) hd (fun K hK => ?_)
  exact skip_ hw hN hrun (hK.out _ _ h)
end
/-! ### laws_markAlarmS: function 26 (by hand) -/
def laws_markAlarmS.l0 : Nat → List (S26) → Int → Int → Option (Int × List (S26))
  | 0, _, _, _ => none
  | k + 1, x0, x1, x5 => if x5 < (x0.length : Int) then (if 0 ≤ x5 then ((laws_markLabelS.f k (rd_T26 x0 x5).f0 x1).bind fun b => ((laws_markText.f k (wrap64 ((wrap64 (b.1 + 1)) + 1))).bind fun t => (laws_markAlarmS.l0 k (x0.set (x5 : Int).toNat (⟨b.2, b.1, (wrap64 (b.1 + 1)), t⟩ : S26)) (wrap64 ((wrap64 ((wrap64 (b.1 + 1)) + 1)) + 1)) (wrap64 (x5 + 1))))) else (none)) else (some (x1, x0))
def laws_markAlarmS.f (k : Nat) (l0 : List (S26)) (a1 : Int) : Option (Int × List (S26)) := laws_markAlarmS.l0 k l0 a1 0
set_option maxHeartbeats 8000000 in
set_option maxRecDepth 100000 in
theorem laws_markAlarmS.calls (k : Nat) (P : Nat → Prop) (A0 : Option Addr) (c0 : Nat) (l0 : List (S26)) (a1 : Int) (r1 : Int) (r2 : List (S26)) (w0 w : World) (hB : Below w0.heap.size w0 w) (ho0 : Kd.S k26 26 w w0.heap.size P (.slice A0 l0.length c0) l0) (h : laws_markAlarmS.f k l0 a1 = some (r1, r2)) :
    Calls Try.prog 26 #[.slice A0 l0.length c0, .int .i64 a1] w fun e w' => e = .returned (.int .i64 r1) ∧ Kd.S k26 26 w' w0.heap.size P (.slice A0 l0.length c0) r2 ∧ Below w0.heap.size w0 w' ∧ Kept w w' P := by
  have hu := Try.underlying26
  have HN := Aside0.mk (Eq.refl l0.length)
  obtain ⟨n0, hn0⟩ : ∃ n, n = l0.length := ⟨_, rfl⟩
  have HN0 := Aside0.mk hn0
  rw [← hn0] at ho0 ⊢
  clear hn0
  have HO0 := Aside0.mk ho0
  have HK := Aside0.mk (Kept.refl w P)
  have HB := Aside0.mk hB
  clear hB ho0
  have H' := Aside0.mk (show laws_markAlarmS.l0 k l0 a1 0 = some (r1, r2) from h)
  clear h
  go_enter Try.func26, Try.ntmps26
  go_wp2
  go_loopg [1, 5] k (fun kq v1 v5 w' => ∃ (x0 : List (S26)) (x1 : Int) (x5 : Int), v1 = .int .i64 x1 ∧ v5 = .int .i64 x5 ∧ Aside0 (laws_markAlarmS.l0 kq x0 x1 x5 = some (r1, r2)) ∧ Aside0 (kq ≤ k) ∧ Aside0 (Kd.S k26 26 w' w0.heap.size P (.slice A0 n0 c0) x0) ∧ Aside0 (Kept w w' P) ∧ Aside0 (Below w0.heap.size w0 w'))
  case atStart => exact ⟨l0, a1, 0, rfl, rfl, H', ⟨Nat.le_refl _⟩, HO0, HK, HB⟩
  case round =>
    clear H' HO0 HK HB
    obtain ⟨x0, x1, x5, rfl, rfl, HA, HK1, HO, HK, HB⟩ := hrel
    cases gk with
    | zero => exact absurd HA.out (by simp [laws_markAlarmS.l0])
    | succ k1 =>
      have H := HA.out
      clear HA
      simp only [laws_markAlarmS.l0] at H
      have hlen := (Kd.S_reads' HO.out).1
      by_cases c3 : x5 < (x0.length : Int)
      · rw [if_pos c3] at H
        by_cases c5 : 0 ≤ x5
        · rw [if_pos c5] at H
          obtain ⟨b, HL, H⟩ := Option.bind_eq_some_iff.mp H
          obtain ⟨t, HT, H⟩ := Option.bind_eq_some_iff.mp H
          obtain ⟨b1, b2⟩ := b
          dsimp only at HL HT H
          have AL := Aside0.mk HL
          have AT := Aside0.mk HT
          have H' := Aside0.mk H
          clear HL HT H
          obtain ⟨g, cap, ev, hbg, hgl, _⟩ := Kd.S_form HO.out (by omega)
          injection ev with eA en ec
          subst eA; subst ec
          have hi1 : x5 < (n0 : Int) := by omega
          obtain ⟨oki, c, hcl, hM, hcc, hfr, hoki, hH⟩ := Kd.S_elem HO.out z26 x5 c5 hi1
          obtain ⟨v, rfl, hR⟩ := k26_openM hM
          have hz0 : wr.cell? ⟨g, (x5 : Int).toNat * 4, none⟩ = some v := hcc 0 _ rfl
          obtain ⟨Av, cv, ev⟩ := Kd.R_slice hR
          subst ev
          have HH := Aside0.mk hH
          have HR := Aside0.mk (Kd.R_tight rfl hR)
          have HRok := Aside0.mk hR.1
          have HOK := Aside0.mk hoki
          have HGP := Aside0.mk (show P g from (Kd.S_R HO.out).1 g (by simp [Value.ownBlock]))
          have HGB := Aside0.mk hbg
          have HN1 := Aside0.mk hlen
          have HI := Aside0.mk hi1
          have HC5 := Aside0.mk c5
          have HCC := Aside0.mk hcc
          have HFR := Aside0.mk hfr
          have p5 : (0 ≤ x5) = True := eq_true c5
          have q5 : (x5 < (n0 : Int)) = True := eq_true hi1
          clear hH hR hM hoki hgl hbg hlen hcc hfr hcl HO en
          have c5b : decide (0 ≤ x5) = true := decide_eq_true c5
          have c3b : decide (x5 < (n0 : Int)) = true := decide_eq_true hi1
          clear c3 c5 hi1
          go_wp2_with (first | ((with_reducible refine gate_callee (f := 65) rfl ?_); refine goesL_ (some 18) rfl rfl Try.func65 (by kernel_rfl) rfl #[.slice Av (rd_T26 x0 x5).f0.length cv, .int .i64 x1] rfl (by (try simp only [List.map_toArray, List.map_cons, List.map_nil]); first | done | rfl) ?_; refine (laws_markLabelS.calls k1 (fun k_ => some k_ = (Value.slice Av (rd_T26 x0 x5).f0.length cv).ownBlock) (.slice Av (rd_T26 x0 x5).f0.length cv) (rd_T26 x0 x5).f0 x1 b1 b2 w0 _ HB.out HR.out AL.out).mono ?_; rintro e w1 ⟨rfl, hy, hb, hk⟩; refine ⟨_, rfl, ?_⟩; have HB1 := Aside0.mk hb; have HS1 := Aside0.mk (fun k_ (h_ : some k_ = (Value.slice Av (rd_T26 x0 x5).f0.length cv).ownBlock) => HRok.out k_ h_.symm); have HK2 := Aside0.mk (Kept.then_ HK.out hk (fun k_ hk_ => Or.inl (HOK.out k_ (HS1.out k_ hk_)).1)); have HH1 := Aside0.mk (Kd.H_kept HH.out hk (fun k_ _ hn hs => hn (HS1.out k_ hs))); have HR1 := Aside0.mk (Kd.R_reok (ok := oki) rfl hy (fun k_ h_ => HS1.out k_ h_.symm)); have HG1 := Aside0.mk (fun hs => (HOK.out g (HS1.out g hs)).2 rfl); have HCC1 := Aside0.mk (fun j u (hj : _) => cell_kept (HCC.out j u hj) hk HG1.out); have e0 : w1.cell? ⟨g, (x5 : Int).toNat * 4, none⟩ = some (.slice Av (rd_T26 x0 x5).f0.length cv) := cell_kept (HCC.out 0 _ rfl) hk HG1.out; have e1 : w1.cell? ⟨g, (x5 : Int).toNat * 4 + 1, none⟩ = some (.int .i64 (rd_T26 x0 x5).f1) := cell_kept (HCC.out 1 _ rfl) hk HG1.out; have e2 : w1.cell? ⟨g, (x5 : Int).toNat * 4 + 2, none⟩ = some (.int .i64 (rd_T26 x0 x5).f2) := cell_kept (HCC.out 2 _ rfl) hk HG1.out; have e3 : w1.cell? ⟨g, (x5 : Int).toNat * 4 + 3, none⟩ = some (.string (rd_T26 x0 x5).f3) := cell_kept (HCC.out 3 _ rfl) hk HG1.out; have hfr1 : ∀ j, w1.frozen? ⟨g, (x5 : Int).toNat * 4 + j, none⟩ = false := (fun j => by have hb_ := hk.2 g (World.block_lt_of_cell? _ _ (HCC.out 0 _ rfl)) HG1.out; have hf_ := HFR.out j; simp only [World.frozen?, hb_] at hf_ ⊢; exact hf_); have f1 := hfr1 1; have f2 := hfr1 2; clear hfr1 hy hb hk hz0))
          refine (laws_markText.calls k1 (wrap64 (wrap64 (b1 + 1) + 1)) t _ AT.out).mono ?_
          rintro e w2 ⟨rfl, hb⟩
          have h1 : Kd.H k26 26 (w1.setCell ⟨g, (x5 : Int).toNat * 4 + 1, none⟩ (.int .i64 b1)) w0.heap.size P (.slice (some ⟨g, 0, none⟩) n0 c0) x0 x5 oki [.slice Av (rd_T26 x0 x5).f0.length cv, .int .i64 b1, .int .i64 (rd_T26 x0 x5).f2, .string (rd_T26 x0 x5).f3] := (Kd.H_seg HH1.out HC5.out HI.out (seg := [.int .i64 b1]) (j := 1) (show 1 + 1 ≤ 4 by decide) (fun q hq => by rw [List.mem_singleton.1 hq]; rfl)).1
          have h2 : Kd.H k26 26 ((w1.setCell ⟨g, (x5 : Int).toNat * 4 + 1, none⟩ (.int .i64 b1)).setCell ⟨g, (x5 : Int).toNat * 4 + 2, none⟩ (.int .i64 (wrap64 (b1 + 1)))) w0.heap.size P (.slice (some ⟨g, 0, none⟩) n0 c0) x0 x5 oki [.slice Av (rd_T26 x0 x5).f0.length cv, .int .i64 b1, .int .i64 (wrap64 (b1 + 1)), .string (rd_T26 x0 x5).f3] := (Kd.H_seg h1 HC5.out HI.out (seg := [.int .i64 (wrap64 (b1 + 1))]) (j := 2) (show 2 + 1 ≤ 4 by decide) (fun q hq => by rw [List.mem_singleton.1 hq]; rfl)).1
          have HH2 := Aside0.mk (Kd.H_below h2 hb)
          have HR2 := Aside0.mk (Kd.R_below (Kd.R_far (p := ⟨g, (x5 : Int).toNat * 4 + 2, none⟩) (Kd.R_far (p := ⟨g, (x5 : Int).toNat * 4 + 1, none⟩) HR1.out (fun k_ hk_ => (HOK.out k_ hk_).2) (.int .i64 b1)) (fun k_ hk_ => (HOK.out k_ hk_).2) (.int .i64 (wrap64 (b1 + 1)))) hb)
          have HB2 := Aside0.mk (below_step (below_set (below_set HB1.out HGB.out) HGB.out) hb)
          have HK3 := Aside0.mk (Kept.below (Kept.setCell (Kept.setCell HK2.out (p := ⟨g, (x5 : Int).toNat * 4 + 1, none⟩) (Or.inl HGP.out) _) (p := ⟨g, (x5 : Int).toNat * 4 + 2, none⟩) (Or.inl HGP.out) _) hb)
          obtain ⟨_, _, _, _, _, hcc2, _⟩ := Kd.H_raw HH2.out HC5.out HI.out
          have e3' : w2.cell? ⟨g, (x5 : Int).toNat * 4 + 3, none⟩ = some (.string (rd_T26 x0 x5).f3) := hcc2 3 _ rfl
          have f3' : w2.frozen? ⟨g, (x5 : Int).toNat * 4 + 3, none⟩ = false := (by obtain ⟨_, f_, hRg⟩ := HH2.out; obtain ⟨g_, cap_, ev_, _, _, cells_, hbk_⟩ := Kd.R_form hRg (by rw [List.length_zipIdx]; have := HN1.out; have := HI.out; have := HC5.out; omega); injection ev_ with ea_; injection ea_ with ea_; injection ea_ with ea_; subst ea_; exact blk_frozen hbk_ _)
          clear hcc2 h1 h2 hb
          go_wp2
          go_roundg k1
          case measure => have := HK1.out; omega
          case rel =>
            have h3 : Kd.H k26 26 (w2.setCell ⟨g, (x5 : Int).toNat * 4 + 3, none⟩ (.string t)) w0.heap.size P (.slice (some ⟨g, 0, none⟩) n0 c0) x0 x5 oki [.slice Av (rd_T26 x0 x5).f0.length cv, .int .i64 b1, .int .i64 (wrap64 (b1 + 1)), .string t] := (Kd.H_seg HH2.out HC5.out HI.out (seg := [.string t]) (j := 3) (show 3 + 1 ≤ 4 by decide) (fun q hq => by rw [List.mem_singleton.1 hq]; rfl)).1
            have h4 := Kd.H_back h3 (x' := (⟨b2, b1, wrap64 (b1 + 1), t⟩ : S26)) (k26_mkM _ _ oki (⟨b2, b1, wrap64 (b1 + 1), t⟩ : S26) (v0 := .slice Av (rd_T26 x0 x5).f0.length cv) (Kd.R_far (p := ⟨g, (x5 : Int).toNat * 4 + 3, none⟩) HR2.out (fun k_ hk_ => (HOK.out k_ hk_).2) (.string t))) (fun _ hk_ => hk_)
            exact ⟨_, _, _, (by first | rfl | (simp; done) | (simp [*]; done)), (by first | rfl | (simp; done) | (simp [*]; done)), H', ⟨by have := HK1.out; omega⟩, ⟨h4⟩, ⟨Kept.setCell HK3.out (p := ⟨g, (x5 : Int).toNat * 4 + 3, none⟩) (Or.inl HGP.out) _⟩, ⟨below_set HB2.out HGB.out⟩⟩
        · rw [if_neg c5] at H
          exact absurd H (by simp)
      · rw [if_neg c3] at H
        simp only [Option.some.injEq, Prod.mk.injEq] at H
        obtain ⟨rfl, rfl⟩ := H
        have c3b : decide (x5 < (n0 : Int)) = false := decide_eq_false (by omega)
        clear c3 hlen
        go_wp2
        go_ret
        exact ⟨rfl, HO.out, HB.out, HK.out⟩
/-! ### A kind of slices whose own elements' rows are told apart (S within): 'Kd.S (.. tidy ..)' tells two levels apart -/
/-- As Kd.slice, but what is made tells the elements' rows apart from one another. -/
def tidy {α : Type} (e : Nat) (d : Kd α) : Kd (List α) where
  sz := 1
  E := e :: d.E
  K := (Kd.slice e d).K
  M := fun w base ok xs cs => ∃ v, cs = [v] ∧ Kd.S d e w base ok v xs
  K_len := (Kd.slice e d).K_len
  K_one := (Kd.slice e d).K_one
  K_below := (Kd.slice e d).K_below
  K_of_M := by
    rintro w base ok x cs ⟨v, rfl, h⟩
    obtain ⟨A, c, rfl, hl, hr⟩ := Kd.S_reads h
    exact ⟨A, c, rfl, hl, hr⟩
  M_mono := by
    rintro w base ok ok' x cs hok ⟨v, rfl, h⟩
    exact ⟨v, rfl, Kd.S_mono h hok⟩
  M_bound := by
    rintro w base ok x cs ⟨v, rfl, h⟩
    exact ⟨v, rfl, Kd.S_bound h⟩
  M_move := by
    rintro w w1 base ok x cs hm ⟨v, rfl, h⟩
    exact ⟨v, rfl, Kd.S_move h hm⟩
  M_lower := by
    rintro w base base' ok x cs hb ⟨v, rfl, h⟩
    exact ⟨v, rfl, Kd.S_lower h hb⟩
/-- Chains whose alarms' rows are told apart. -/
def k39t : Kd S39 := Kd.iso (Kd.pair (Kd.int .i64) (tidy 26 k26)) (fun x : S39 => (x.f0, x.f1))
theorem k39t_C {w : World} {A : Option Addr} {n : Nat} {xs : List S39} : Kd.C k39t w A n xs = Kd.C k39 w A n xs := rfl
theorem k39t_openM {w : World} {base : Nat} {ok : Nat → Prop} {x : S39} {cs : List Value} (h : k39t.M w base ok x cs) : ∃ v0, cs = [.int .i64 x.f0, v0] ∧ Kd.S k26 26 w base ok v0 x.f1 := by
  obtain ⟨_, _, rfl, rfl, ⟨v0, rfl, g0⟩⟩ := h
  exact ⟨v0, rfl, g0⟩
theorem k39t_mkM (w : World) (base : Nat) (ok : Nat → Prop) (x : S39) {v0 : Value} (g0 : Kd.S k26 26 w base ok v0 x.f1) : k39t.M w base ok x [.int .i64 x.f0, v0] := ⟨[.int .i64 x.f0], [v0], rfl, rfl, ⟨v0, rfl, g0⟩⟩
/-! ### laws_toChainS: function 70, its rows told apart at two levels (by hand) -/
set_option maxHeartbeats 8000000 in
set_option maxRecDepth 100000 in
theorem laws_toChainS2.calls (k : Nat) (A0 : Option Addr) (c0 : Nat) (l0 : List (S35)) (r : List (S39)) (w : World) (hr0 : Kd.C k35 w A0 l0.length l0) (hc0 : l0.length ≤ c0) (h : laws_toChainS.f k l0 = some r) :
    Calls Try.prog 70 #[.slice A0 l0.length c0] w fun e w' => ∃ v0_ : Value, e = .returned (v0_) ∧ Kd.S k39t 39 w' w.heap.size (fun _ => True) v0_ r ∧ Below w.heap.size w w' := by
  have hu := Try.underlying39
  have HR0 := aM hr0
  have HC0 := aM hc0
  clear hr0 hc0
  unfold laws_toChainS.f at h
  rw [if_pos (by omega)] at h
  by_cases c3 : ((l0.length : Int) : Int).toNat ≤ 8796093022208
  · rw [if_pos c3] at h
    have HX := aM h
    have LM := aM c3
    clear h c3
    have c2b1 : decide (0 ≤ (l0.length : Int)) = true := decide_eq_true (by omega)
    have c2b2 : (0 ≤ (l0.length : Int)) = True := eq_true (by omega)
    have c3b1 : decide ((l0.length : Int).toNat ≤ 8796093022208) = true := decide_eq_true LM.out
    go_enter Try.func70, Try.ntmps70
    go_wp2_with (first | ((with_reducible refine gate_dst (N := 7) rfl ?_); refine Kd.S_make k39t _ 39 rfl (N := 7) rfl 53 _ _ rfl (l0.length : Int) rfl rfl Try.underlying53 (.agg #[(.int .i64 0), (.slice none 0 0)]) 32 info39 rfl (by decide) (by omega) z39 (ok := fun _ => True) (okp := fun _ => True) (k39t_mkM _ _ _ z39 (Kd.S_nil _ _ _ _ _)) (fun _ hk => hk) trivial (by omega) (Nat.le_trans (Nat.mul_le_mul_right _ (LM.out : (l0.length : Int).toNat ≤ 8796093022208)) (by omega)) (Below.refl _ _) (Nat.le_refl _) ?_; intro v7_ w4 ho5 hb hg_ hnew_; have HO1 := aM ho5; have HB1 := aM hb; clear hg_ hnew_ ho5 hb))
    obtain ⟨y, hy⟩ : ∃ y, y = List.replicate ((l0.length : Int)).toNat z39 := ⟨_, rfl⟩
    have HX1 := aM (show laws_toChainS.l0 k l0 y 0 = some r by rw [hy]; exact HX.out)
    have HO2 := aM (show Kd.S k39t 39 w4 w.heap.size (fun _ => True) v7_ y by rw [hy]; exact HO1.out)
    clear HX HO1
    obtain ⟨A3, c3, e3⟩ := Kd.S_slice HO2.out
    have HY := aM hy
    have HL := aM (show y.length = l0.length by rw [hy, List.length_replicate]; omega)
    clear hy
    subst e3
    go_loopg [4] k (fun kq v4 w' => ∃ (x3 : List (S39)) (x4 : Int), v4 = .int .i64 x4 ∧ Aside0 (laws_toChainS.l0 kq l0 x3 x4 = some r) ∧ Aside0 (kq ≤ k) ∧ Aside0 (Kd.S k39t 39 w' w.heap.size (fun _ => True) (.slice A3 y.length c3) x3) ∧ Aside0 (Below w.heap.size w w'))
    case atStart => exact ⟨y, 0, rfl, HX1, ⟨Nat.le_refl _⟩, HO2, HB1⟩
    case round =>
      clear HX1 HO2 HB1 HY c2b1 c2b2 c3b1
      obtain ⟨x3, x4, rfl, HA, HK1, HO, HB⟩ := hrel
      cases gk with
      | zero => exact absurd HA.out (by simp [laws_toChainS.l0])
      | succ k1 =>
        have H := HA.out
        clear HA
        simp only [laws_toChainS.l0] at H
        by_cases c6 : x4 < (l0.length : Int)
        · rw [if_pos c6] at H
          by_cases c7 : 0 ≤ x4
          · rw [if_pos c7] at H
            obtain ⟨⟨bf, bl⟩, HT, H⟩ := Option.bind_eq_some_iff.mp H
            dsimp only at HT H
            by_cases c9 : x4 < (x3.length : Int)
            · rw [if_pos c9] at H
              have AT := aM HT
              have H' := aM H
              clear HT H
              have hlen := (Kd.S_reads' HO.out).1
              have hi1 : x4 < (y.length : Int) := by omega
              obtain ⟨g, cap, ev, hbg, hgl, _⟩ := Kd.S_form HO.out (by omega)
              injection ev with eA en ec
              subst eA; subst ec
              obtain ⟨ad, Aa, ca, rfl, hx0, hx1, hla, hCa⟩ := at_T35 HR0.out x4 c7 c6
              replace hx0 := pw_cell_below HB.out hx0
              replace hx1 := pw_cell_below HB.out hx1
              have HCw := aM hCa
              have HLa := aM hla
              have HGB := aM hbg
              have HI := aM hi1
              have HC7 := aM c7
              have HLn := aM hlen
              have p5 : (0 ≤ x4) = True := eq_true c7
              have q5 : (x4 < (l0.length : Int)) = True := eq_true c6
              have q6 : (x4 < (y.length : Int)) = True := eq_true hi1
              have c6b : decide (x4 < (l0.length : Int)) = true := decide_eq_true c6
              clear hla hCa hbg hgl hi1 hlen c6 c7 c9 en
              go_wp2_with (first | ((with_reducible refine gate_callee (f := 21) rfl ?_); refine goesL_ (some 20) rfl rfl Try.func21 (by kernel_rfl) rfl #[.agg #[.int .i64 (rd_T35 l0 x4).f0, .slice Aa (rd_T35 l0 x4).f1.length ca]] rfl (by (try simp only [List.map_toArray, List.map_cons, List.map_nil]); first | done | rfl) ?_; refine (laws_toChain.calls k1 (rd_T35 l0 x4).f0 _ _ (rd_T35 l0 x4).f1 bf bl _ (Kd.C_below HCw.out HB.out) HLa.out AT.out).mono ?_; rintro e w5 ⟨v5_, rfl, ho, hb⟩; obtain ⟨An, cn, rfl, _, _⟩ := Kd.S_reads ho; refine ⟨_, rfl, ?_⟩; have hob := Kd.S_below (Kd.S_bound HO.out) hb; have hbb := Kd.S_lower (Kd.S_mono (Kd.S_bound ho) (fun k_ hk_ => hk_.2.1)) HB.out.size; obtain ⟨oki, c, hcl, hM, hcc, hfr, hoki, hH⟩ := Kd.S_elem (Kd.S_mono hob (ok' := fun k_ => True ∧ ¬ (wr.heap.size ≤ k_)) (fun k_ hk_ => ⟨trivial, by have := hk_.2.2.1; omega⟩)) z39 x4 HC7.out HI.out; obtain ⟨vi, rfl, _⟩ := k39t_openM hM; have hg1 := (Kd.S_R hob).1 g (by simp [Value.ownBlock]); have HG1 := aM hg1.2.2.1; have HH := aM hH; have HBB := aM hbb; have HB2 := aM (below_step HB.out hb); have z0 : w5.cell? ⟨g, x4.toNat * 2, none⟩ = some (.int .i64 (rd_T39 x3 x4).f0) := hcc 0 _ rfl; have z1 : w5.cell? ⟨g, x4.toNat * 2 + 1, none⟩ = some vi := hcc 1 _ rfl; have y0 : w5.frozen? ⟨g, x4.toNat * 2, none⟩ = false := hfr 0; have y1 : w5.frozen? ⟨g, x4.toNat * 2 + 1, none⟩ = false := hfr 1; clear ho hb hob hbb hH hM hcc hfr hcl hoki hg1 hx0 hx1 HB HO))
              go_roundg k1
              case measure => have := HK1.out; omega
              case rel =>
                have hS1 := (Kd.S_seg (okg := fun k_ => wr.heap.size ≤ k_) HH.out HC7.out HI.out (seg := [.int .i64 bf, .slice An bl.length cn]) (j := 0) (show 0 + 2 ≤ 2 by decide) (x' := (⟨bf, bl⟩ : S39)) (okp := fun k_ => wr.heap.size ≤ k_) (k39t_mkM _ _ _ (⟨bf, bl⟩ : S39) (v0 := .slice An bl.length cn) HBB.out) (fun _ h_ => Or.inr h_) (fun k_ h_ => ⟨trivial, fun e_ => by subst e_; have := HG1.out; omega⟩)).1
                exact ⟨_, _, (by first | rfl | (simp; done) | (simp [*]; done)), H', ⟨by have := HK1.out; omega⟩, ⟨hS1⟩, ⟨below_set (below_set HB2.out HGB.out) HGB.out⟩⟩
            · rw [if_neg c9] at H; cases H
          · rw [if_neg c7] at H; cases H
        · rw [if_neg c6] at H
          simp only [Option.some.injEq] at H
          subst H
          have c6b : decide (x4 < (l0.length : Int)) = false := decide_eq_false c6
          go_wp2
          go_ret
          exact ⟨_, rfl, HO.out, HB.out⟩
  · rw [if_neg c3] at h; cases h
/-! ### laws.toPart, turned -/
set_option maxHeartbeats 8000000 in
set_option maxRecDepth 100000 in
theorem laws_toPart2.calls (k : Nat) (a0_0 : Int) (a0_1 : Int) (A0_2 : Option Addr) (c0_2 : Nat) (l0_2 : List (S35)) (r1 : Int) (r2 : Int) (r3 : List (S39)) (w : World) (hr0_2 : Kd.C k35 w A0_2 l0_2.length l0_2) (hc0_2 : l0_2.length ≤ c0_2) (h : laws_toPart.f k a0_0 a0_1 l0_2 = some (r1, r2, r3)) :
  Calls Try.prog 31 #[.agg #[.int .i64 a0_0, .int .i64 a0_1, .slice A0_2 l0_2.length c0_2]] w fun e w' => ∃ v2_ : Value, e = .returned (.agg #[.int .i64 r1, .int .i64 r2, v2_]) ∧ Kd.S k39t 39 w' w.heap.size (fun _ => True) v2_ r3 ∧ Below w.heap.size w w' := by
 have hu50 := Try.underlying50
 have hu55 := Try.underlying55
 have HR0_2 := aM hr0_2
 have HC0_2 := aM hc0_2
 clear hr0_2 hc0_2
 have HB := aM (Below.refl w.heap.size w)
 have H : ((laws_toChainS.f k l0_2).bind fun t188 => (some (a0_0, a0_1, t188))) = some (r1, r2, r3) := h
 clear h; replace H := Option.bind_eq_some_iff.mp H; obtain ⟨t188, A20, H⟩ := H; try dsimp only at H
 have A2 := aM A20
 clear A20
 simp only [Option.some.injEq, Prod.mk.injEq] at H
 obtain ⟨rfl, rfl, rfl⟩ := H
 go_enter Try.func31, Try.ntmps31
 go_wp2_with (first | ((with_reducible refine gate_dst (N := 1) rfl ?_); refine box_event ?hg (N := 1) ?hd (cs := #[.int .i64 a0_0, .int .i64 a0_1, .slice A0_2 l0_2.length c0_2]) (t := 50) ?hr ?_; (case hd => rfl); (case hg => rfl); (case hr => first | (go_simp; done) | (go_simp; rfl)); intro gb185 hg w3 hbox hb; have n0_ := aM (below_step (by repeat (first | (with_reducible first | exact HB.out | apply aW1 | apply aW2 | apply aW3) | exact HB.out)) hb); have n1_ := aM (hbox); have n2_ := aM ((by rw [hg]; exact (below_size (by repeat (first | (with_reducible first | exact HB.out | apply aW1 | apply aW2 | apply aW3) | exact HB.out))) : w.heap.size ≤ gb185)); have n3_ := aM ((by rw [hg]; exact (below_size (by repeat (first | (with_reducible first | exact HB.out | apply aW1 | apply aW2 | apply aW3) | exact HB.out))) : w.heap.size ≤ gb185)); clear HB; have HB := n0_; have BK185 := n1_; have GW185 := n2_; have GE185 := n3_; clear n0_ n1_ n2_ n3_ hb hbox hg) | ((with_reducible refine gate_dst (N := 2) rfl ?_); refine box_event ?hg (N := 2) ?hd (cs := #[.int .i64 0, .int .i64 0, .slice none 0 0]) (t := 55) ?hr ?_; (case hd => rfl); (case hg => rfl); (case hr => first | (go_simp; done) | (go_simp; rfl)); intro gb186 hg w4 hbox hb; have n0_ := bb BK185 hb; have n1_ := aM (below_step (by repeat (first | (with_reducible first | exact HB.out | apply aW1 | apply aW2 | apply aW3 | refine below_set ?_ GE185.out) | exact HB.out)) hb); have n2_ := aM (hbox); have n3_ := aM ((by rw [hg]; exact (below_size (by repeat (first | (with_reducible first | exact HB.out | apply aW1 | apply aW2 | apply aW3 | refine below_set ?_ GE185.out) | exact HB.out))) : w.heap.size ≤ gb186)); have n4_ := aM ((by rw [hg]; exact (below_size (by repeat (first | (with_reducible first | exact HB.out | apply aW1 | apply aW2 | apply aW3 | refine below_set ?_ GE185.out) | exact HB.out))) : w.heap.size ≤ gb186)); have n5_ := aM ((by rw [hg]; exact Nat.ne_of_lt (blk_lt (g := gb185) (aB BK185)) : gb185 ≠ gb186)); have n6_ := aM ((by rw [hg]; exact Nat.ne_of_gt (blk_lt (g := gb185) (aB BK185)) : gb186 ≠ gb185)); clear BK185 HB; have BK185 := n0_; have HB := n1_; have BK186 := n2_; have GW186 := n3_; have GE186 := n4_; have NB185_186 := n5_; have NB186_185 := n6_; clear n0_ n1_ n2_ n3_ n4_ n5_ n6_ hb hbox hg) | ((with_reducible refine gate_dst (N := 3) rfl ?_); refine box_event ?hg (N := 3) ?hd (cs := #[.int .i64 0, .int .i64 0, .slice none 0 0]) (t := 55) ?hr ?_; (case hd => rfl); (case hg => rfl); (case hr => first | (go_simp; done) | (go_simp; rfl)); intro gb187 hg w5 hbox hb; have n0_ := bb BK185 hb; have n1_ := bb BK186 hb; have n2_ := aM (below_step (by repeat (first | (with_reducible first | exact HB.out | apply aW1 | apply aW2 | apply aW3 | refine below_set ?_ GE185.out | refine below_set ?_ GE186.out) | exact HB.out)) hb); have n3_ := aM (hbox); have n4_ := aM ((by rw [hg]; exact (below_size (by repeat (first | (with_reducible first | exact HB.out | apply aW1 | apply aW2 | apply aW3 | refine below_set ?_ GE185.out | refine below_set ?_ GE186.out) | exact HB.out))) : w.heap.size ≤ gb187)); have n5_ := aM ((by rw [hg]; exact (below_size (by repeat (first | (with_reducible first | exact HB.out | apply aW1 | apply aW2 | apply aW3 | refine below_set ?_ GE185.out | refine below_set ?_ GE186.out) | exact HB.out))) : w.heap.size ≤ gb187)); have n6_ := aM ((by rw [hg]; exact Nat.ne_of_lt (blk_lt (g := gb185) (aB BK185)) : gb185 ≠ gb187)); have n7_ := aM ((by rw [hg]; exact Nat.ne_of_gt (blk_lt (g := gb185) (aB BK185)) : gb187 ≠ gb185)); have n8_ := aM ((by rw [hg]; exact Nat.ne_of_lt (blk_lt (g := gb186) (aB BK186)) : gb186 ≠ gb187)); have n9_ := aM ((by rw [hg]; exact Nat.ne_of_gt (blk_lt (g := gb186) (aB BK186)) : gb187 ≠ gb186)); clear BK185 BK186 HB; have BK185 := n0_; have BK186 := n1_; have HB := n2_; have BK187 := n3_; have GW187 := n4_; have GE187 := n5_; have NB185_187 := n6_; have NB187_185 := n7_; have NB186_187 := n8_; have NB187_186 := n9_; clear n0_ n1_ n2_ n3_ n4_ n5_ n6_ n7_ n8_ n9_ hb hbox hg; have hnb6 := NB185_186.out; have hnc6 := NB186_185.out; have hnb7 := NB185_187.out; have hnc7 := NB187_185.out; have hcz8_0 := cz3_0 BK185; have hcz8_1 := cz3_1 BK185; have hcz8_2 := cz3_2 BK185; have hfz8_0 := blk_frozen BK185.out 0; have hfz8_1 := blk_frozen BK185.out 1; have hfz8_2 := blk_frozen BK185.out 2; have hnb9 := NB187_186.out; have hnc9 := NB186_187.out; have hcz10_0 := cz3_0 BK187; have hcz10_1 := cz3_1 BK187; have hcz10_2 := cz3_2 BK187; have hfz10_0 := blk_frozen BK187.out 0; have hfz10_1 := blk_frozen BK187.out 1; have hfz10_2 := blk_frozen BK187.out 2) | ((with_reducible refine gate_callee (f := 70) rfl ?_); refine goesL_ (some 12) rfl rfl Try.func70 (by kernel_rfl) rfl #[.slice A0_2 l0_2.length c0_2] rfl (by (try simp only [List.map_toArray, List.map_cons, List.map_nil]); first | done | rfl | (simp only [List.length_drop, List.length_take]; rfl)) ?_; (with_reducible refine (laws_toChainS2.calls k _ _ l0_2 t188 _ ?side1 ?side2 A2.out).mono ?_); (case side1 => exact Kd.C_below HR0_2.out (by repeat (first | (with_reducible first | exact HB.out | apply aW1 | apply aW2 | apply aW3 | refine below_set ?_ GE185.out | refine below_set ?_ GE186.out | refine below_set ?_ GE187.out) | exact HB.out))); (case side2 => exact HC0_2.out); rintro e w11 ⟨v189, rfl, ho0, hb⟩; refine ⟨_, rfl, ?_⟩; have n0_ := aM (Kd.S_lower ho0 (below_size (by repeat (first | (with_reducible first | exact HB.out | apply aW1 | apply aW2 | apply aW3 | refine below_set ?_ GE185.out | refine below_set ?_ GE186.out | refine below_set ?_ GE187.out) | exact HB.out)))); have n1_ := aM (blk_below (g := gb185) (o := .cells #[.int .i64 a0_0, .int .i64 a0_1, .slice A0_2 l0_2.length c0_2] 50 (0, 0)) (by (with_reducible repeat (first | refine aB1 ?_ _ | refine aB2 ?_ | refine aB3 ?_ _)); refine blk_far ?_ NB185_187.out _; (with_reducible repeat (first | refine aB1 ?_ _ | refine aB2 ?_ | refine aB3 ?_ _)); refine blk_far ?_ NB185_187.out _; (with_reducible repeat (first | refine aB1 ?_ _ | refine aB2 ?_ | refine aB3 ?_ _)); exact BK185.out) hb); have n2_ := aM (blk_below (g := gb186) (o := .cells #[.int .i64 0, .int .i64 0, .slice none 0 0] 55 (0, 0)) (by (with_reducible repeat (first | refine aB1 ?_ _ | refine aB2 ?_ | refine aB3 ?_ _)); refine blk_far ?_ NB186_187.out _; (with_reducible repeat (first | refine aB1 ?_ _ | refine aB2 ?_ | refine aB3 ?_ _)); refine blk_far ?_ NB186_187.out _; (with_reducible repeat (first | refine aB1 ?_ _ | refine aB2 ?_ | refine aB3 ?_ _)); exact BK186.out) hb); have n3_ := aM (blk_below (g := gb187) (o := .cells #[.int .i64 a0_0, .int .i64 a0_1, .slice none 0 0] 55 (0, 0)) (by (with_reducible repeat (first | refine aB1 ?_ _ | refine aB2 ?_ | refine aB3 ?_ _)); refine blk_put (cs := #[.int .i64 a0_0, .int .i64 0, .slice none 0 0]) ?_ 1 _ rfl; (with_reducible repeat (first | refine aB1 ?_ _ | refine aB2 ?_ | refine aB3 ?_ _)); refine blk_put (cs := #[.int .i64 0, .int .i64 0, .slice none 0 0]) ?_ 0 _ rfl; (with_reducible repeat (first | refine aB1 ?_ _ | refine aB2 ?_ | refine aB3 ?_ _)); exact BK187.out) hb); have n4_ := aM (below_step (by repeat (first | (with_reducible first | exact HB.out | apply aW1 | apply aW2 | apply aW3 | refine below_set ?_ GE185.out | refine below_set ?_ GE186.out | refine below_set ?_ GE187.out) | exact HB.out)) hb); clear BK185 BK186 BK187 HB; have HO190 := n0_; have BK185 := n1_; have BK186 := n2_; have BK187 := n3_; have HB := n4_; clear n0_ n1_ n2_ n3_ n4_; (try clear hb); (try clear hb2); (try clear hk); (try clear hi); (try clear ho0); obtain ⟨Ao12, co12, eo12⟩ := Kd.S_slice HO190.out; subst eo12; have hcz13_0 := cz3_0 BK187; have hcz13_1 := cz3_1 BK187; have hcz13_2 := cz3_2 BK187; have hfz13_0 := blk_frozen BK187.out 0; have hfz13_1 := blk_frozen BK187.out 1; have hfz13_2 := blk_frozen BK187.out 2; have hcz14_0 := cz3_0 BK186; have hcz14_1 := cz3_1 BK186; have hcz14_2 := cz3_2 BK186; have hfz14_0 := blk_frozen BK186.out 0; have hfz14_1 := blk_frozen BK186.out 1; have hfz14_2 := blk_frozen BK186.out 2))
 refine bodyPost_ret (results_cell_row rfl _ _ gb186 55 #[.int .i64 a0_0, .int .i64 a0_1, .slice Ao12 t188.length co12] (0, 0) _ rfl (by (with_reducible repeat (first | refine aB1 ?_ _ | refine aB2 ?_ | refine aB3 ?_ _)); refine blk_put (cs := #[.int .i64 a0_0, .int .i64 a0_1, .slice none 0 0]) ?_ 2 _ rfl; (with_reducible repeat (first | refine aB1 ?_ _ | refine aB2 ?_ | refine aB3 ?_ _)); refine blk_put (cs := #[.int .i64 a0_0, .int .i64 0, .slice none 0 0]) ?_ 1 _ rfl; (with_reducible repeat (first | refine aB1 ?_ _ | refine aB2 ?_ | refine aB3 ?_ _)); refine blk_put (cs := #[.int .i64 0, .int .i64 0, .slice none 0 0]) ?_ 0 _ rfl; (with_reducible repeat (first | refine aB1 ?_ _ | refine aB2 ?_ | refine aB3 ?_ _)); refine blk_far ?_ NB186_187.out _; (with_reducible repeat (first | refine aB1 ?_ _ | refine aB2 ?_ | refine aB3 ?_ _)); exact BK186.out) Try.underlying55 rfl (by kernel_rfl)) rfl ?_
 exact ⟨_, by first | rfl | (simp [errW_none, errW_some] <;> rfl) | (simp [*, errW_none, errW_some] <;> rfl), by (with_reducible repeat (first | apply aR1 | apply aR2 | apply aR3)); exact Kd.S_mono (Kd.S_far (p := ⟨gb186, 2, none⟩) (Kd.S_far (p := ⟨gb186, 1, none⟩) (Kd.S_far (p := ⟨gb186, 0, none⟩) (Kd.S_far (p := ⟨gb187, 2, none⟩) (Kd.S_types (Kd.S_types HO190.out BK187.out (by decide)) BK186.out (by decide)) (fun _ hk => hk.1.2) (.slice Ao12 t188.length co12)) (fun _ hk => hk.2) (.int .i64 a0_0)) (fun _ hk => hk.2) (.int .i64 a0_1)) (fun _ hk => hk.2) (.slice Ao12 t188.length co12)) (fun _ hk => trivial), by repeat (first | (with_reducible first | exact HB.out | apply aW1 | apply aW2 | apply aW3 | refine below_set ?_ GE185.out | refine below_set ?_ GE186.out | refine below_set ?_ GE187.out) | exact HB.out)⟩
/-! ### laws_markChainS: function 73 (by hand) -/
def laws_markChainS.l0 : Nat → List (S39) → Int → Int → Option (Int × List (S39))
  | 0, _, _, _ => none
  | k + 1, x0, x1, x5 => if x5 < (x0.length : Int) then (if 0 ≤ x5 then ((laws_markAlarmS.f k (rd_T39 x0 x5).f1 (wrap64 (x1 + 1))).bind fun b => (laws_markChainS.l0 k (x0.set (x5 : Int).toNat (⟨x1, b.2⟩ : S39)) b.1 (wrap64 (x5 + 1)))) else (none)) else (some (x1, x0))
def laws_markChainS.f (k : Nat) (l0 : List (S39)) (a1 : Int) : Option (Int × List (S39)) := laws_markChainS.l0 k l0 a1 0
set_option maxHeartbeats 8000000 in
set_option maxRecDepth 100000 in
theorem laws_markChainS.calls (k : Nat) (P : Nat → Prop) (A0 : Option Addr) (c0 : Nat) (l0 : List (S39)) (a1 : Int) (r1 : Int) (r2 : List (S39)) (w0 w : World) (hB : Below w0.heap.size w0 w) (ho0 : Kd.S k39t 39 w w0.heap.size P (.slice A0 l0.length c0) l0) (h : laws_markChainS.f k l0 a1 = some (r1, r2)) :
    Calls Try.prog 73 #[.slice A0 l0.length c0, .int .i64 a1] w fun e w' => e = .returned (.int .i64 r1) ∧ Kd.S k39t 39 w' w0.heap.size P (.slice A0 l0.length c0) r2 ∧ Below w0.heap.size w0 w' ∧ Kept w w' P := by
  have hu := Try.underlying39
  obtain ⟨n0, hn0⟩ : ∃ n, n = l0.length := ⟨_, rfl⟩
  have HN0 := Aside0.mk hn0
  rw [← hn0] at ho0 ⊢
  clear hn0
  have HO0 := Aside0.mk ho0
  have HK := Aside0.mk (Kept.refl w P)
  have HB := Aside0.mk hB
  clear hB ho0
  have H' := Aside0.mk (show laws_markChainS.l0 k l0 a1 0 = some (r1, r2) from h)
  clear h
  go_enter Try.func73, Try.ntmps73
  go_wp2
  go_loopg [1, 5] k (fun kq v1 v5 w' => ∃ (x0 : List (S39)) (x1 : Int) (x5 : Int), v1 = .int .i64 x1 ∧ v5 = .int .i64 x5 ∧ Aside0 (laws_markChainS.l0 kq x0 x1 x5 = some (r1, r2)) ∧ Aside0 (kq ≤ k) ∧ Aside0 (Kd.S k39t 39 w' w0.heap.size P (.slice A0 n0 c0) x0) ∧ Aside0 (Kept w w' P) ∧ Aside0 (Below w0.heap.size w0 w'))
  case atStart => exact ⟨l0, a1, 0, rfl, rfl, H', ⟨Nat.le_refl _⟩, HO0, HK, HB⟩
  case round =>
    clear H' HO0 HK HB
    obtain ⟨x0, x1, x5, rfl, rfl, HA, HK1, HO, HK, HB⟩ := hrel
    cases gk with
    | zero => exact absurd HA.out (by simp [laws_markChainS.l0])
    | succ k1 =>
      have H := HA.out
      clear HA
      simp only [laws_markChainS.l0] at H
      have hlen := (Kd.S_reads' HO.out).1
      by_cases c3 : x5 < (x0.length : Int)
      · rw [if_pos c3] at H
        by_cases c5 : 0 ≤ x5
        · rw [if_pos c5] at H
          obtain ⟨b, HL, H⟩ := Option.bind_eq_some_iff.mp H
          obtain ⟨b1, b2⟩ := b
          dsimp only at HL H
          have AL := Aside0.mk HL
          have H' := Aside0.mk H
          clear HL H
          obtain ⟨g, cap, ev, hbg, hgl, _⟩ := Kd.S_form HO.out (by omega)
          injection ev with eA en ec
          subst eA; subst ec
          have hi1 : x5 < (n0 : Int) := by omega
          obtain ⟨oki, c, hcl, hM, hcc, hfr, hoki, hH⟩ := Kd.S_elem HO.out z39 x5 c5 hi1
          obtain ⟨v, rfl, hR⟩ := k39t_openM hM
          obtain ⟨Av, cv, ev⟩ := Kd.S_slice hR
          subst ev
          have hR2 : Kd.S k26 26 wr w0.heap.size oki (.slice Av (rd_T39 x0 x5).f1.length cv) (rd_T39 x0 x5).f1 := hR
          have hH2 : Kd.H k39t 39 wr w0.heap.size P (.slice (some ⟨g, 0, none⟩) n0 c0) x0 x5 oki [.int .i64 (rd_T39 x0 x5).f0, .slice Av (rd_T39 x0 x5).f1.length cv] := hH
          have z0 : wr.cell? ⟨g, (x5 : Int).toNat * 2, none⟩ = some (.int .i64 (rd_T39 x0 x5).f0) := hcc 0 _ rfl
          have y0 : wr.frozen? ⟨g, (x5 : Int).toNat * 2, none⟩ = false := hfr 0
          have HGP := Aside0.mk (show P g from (Kd.S_R HO.out).1 g (by simp [Value.ownBlock]))
          have HGB := Aside0.mk hbg
          have HOK := Aside0.mk hoki
          have HI := Aside0.mk hi1
          have HC5 := Aside0.mk c5
          have HH := Aside0.mk hH2
          have HR := Aside0.mk hR2
          have p5 : (0 ≤ x5) = True := eq_true c5
          have q5 : (x5 < (n0 : Int)) = True := eq_true hi1
          clear hH hH2 hR hR2 hM hoki hgl hbg hlen hcc hfr hcl HO en
          have c5b : decide (0 ≤ x5) = true := decide_eq_true c5
          have c3b : decide (x5 < (n0 : Int)) = true := decide_eq_true hi1
          clear c3 c5 hi1
          go_upto_region 5 with (fail)
          clear z0 y0
          have h1 : Kd.H k39t 39 (wr.setCell ⟨g, (x5 : Int).toNat * 2, none⟩ (.int .i64 x1)) w0.heap.size P (.slice (some ⟨g, 0, none⟩) n0 c0) x0 x5 oki [.int .i64 x1, .slice Av (rd_T39 x0 x5).f1.length cv] := (Kd.H_seg HH.out HC5.out HI.out (seg := [.int .i64 x1]) (j := 0) (show 0 + 1 ≤ 2 by decide) (fun q hq => by rw [List.mem_singleton.1 hq]; rfl)).1
          have HH1 := Aside0.mk h1
          have HR1 := Aside0.mk (Kd.S_far HR.out (p := ⟨g, (x5 : Int).toNat * 2, none⟩) (fun k_ hk_ => (HOK.out k_ hk_).2) (.int .i64 x1))
          have HB1 := Aside0.mk (show Below w0.heap.size w0 (wr.setCell ⟨g, (x5 : Int).toNat * 2, none⟩ (.int .i64 x1)) from below_set HB.out HGB.out)
          have HK2 := Aside0.mk (Kept.setCell HK.out (p := ⟨g, (x5 : Int).toNat * 2, none⟩) (Or.inl HGP.out) (.int .i64 x1))
          clear h1 HH HR HB HK
          generalize wr.setCell ⟨g, (x5 : Int).toNat * 2, none⟩ (.int .i64 x1) = w2 at HH1 HR1 HB1 HK2 ⊢
          obtain ⟨_, _, _, _, _, hcc2, _⟩ := Kd.H_raw HH1.out HC5.out HI.out
          have z1 : w2.cell? ⟨g, (x5 : Int).toNat * 2 + 1, none⟩ = some (.slice Av (rd_T39 x0 x5).f1.length cv) := hcc2 1 _ rfl
          clear hcc2
          go_wp2_with (first | ((with_reducible refine gate_callee (f := 26) rfl ?_); refine goesL_ (some 25) rfl rfl Try.func26 (by kernel_rfl) rfl #[.slice Av (rd_T39 x0 x5).f1.length cv, .int .i64 (wrap64 (x1 + 1))] rfl (by (try simp only [List.map_toArray, List.map_cons, List.map_nil]); first | done | rfl) ?_; refine (laws_markAlarmS.calls k1 oki _ _ (rd_T39 x0 x5).f1 (wrap64 (x1 + 1)) b1 b2 w0 _ HB1.out HR1.out AL.out).mono ?_; rintro e w3 ⟨rfl, hy, hb, hk⟩; refine ⟨_, rfl, ?_⟩; have HY := aM hy; have HB2 := aM hb; have HK3 := aM (Kept.then_ HK2.out hk (fun k_ hk_ => Or.inl (HOK.out k_ hk_).1)); have HH2 := aM (Kd.H_kept HH1.out hk (fun k_ _ hn hs => hn hs)); clear hy hb hk z1 HH1 HR1 HB1 HK2))
          go_roundg k1
          case measure => have := HK1.out; omega
          case rel =>
            have h4 := Kd.H_back HH2.out (x' := (⟨x1, b2⟩ : S39)) (k39t_mkM _ _ oki (⟨x1, b2⟩ : S39) (v0 := .slice Av (rd_T39 x0 x5).f1.length cv) HY.out) (fun _ hk_ => hk_)
            exact ⟨_, _, _, (by first | rfl | (simp; done) | (simp [*]; done)), (by first | rfl | (simp; done) | (simp [*]; done)), H', ⟨by have := HK1.out; omega⟩, ⟨h4⟩, HK3, HB2⟩
        · rw [if_neg c5] at H
          exact absurd H (by simp)
      · rw [if_neg c3] at H
        simp only [Option.some.injEq, Prod.mk.injEq] at H
        obtain ⟨rfl, rfl⟩ := H
        have c3b : decide (x5 < (n0 : Int)) = false := decide_eq_false (by omega)
        clear c3 hlen
        go_wp2
        go_ret
        exact ⟨rfl, HO.out, HB.out, HK.out⟩
/-! ### laws_markPart: function 34 (by hand) -/
def laws_markPart.f (k : Nat) (a0_0 : Int) (a0_1 : Int) (l0_2 : List (S39)) (a1 : Int) : Option (Int × List (S39)) := laws_markChainS.f k l0_2 a1
set_option maxHeartbeats 8000000 in
set_option maxRecDepth 100000 in
theorem laws_markPart.calls (k : Nat) (P : Nat → Prop) (a0_0 : Int) (a0_1 : Int) (A0_2 : Option Addr) (c0_2 : Nat) (l0_2 : List (S39)) (a1 : Int) (r1 : Int) (r2 : List (S39)) (w0 w : World) (hB : Below w0.heap.size w0 w) (ho0 : Kd.S k39t 39 w w0.heap.size P (.slice A0_2 l0_2.length c0_2) l0_2) (h : laws_markPart.f k a0_0 a0_1 l0_2 a1 = some (r1, r2)) :
    Calls Try.prog 34 #[.agg #[.int .i64 a0_0, .int .i64 a0_1, .slice A0_2 l0_2.length c0_2], .int .i64 a1] w fun e w' => e = .returned (.int .i64 r1) ∧ Kd.S k39t 39 w' w0.heap.size P (.slice A0_2 l0_2.length c0_2) r2 ∧ Below w0.heap.size w0 w' ∧ Kept w w' P := by
  have hu := Try.underlying55
  have HO0 := aM ho0
  have HB := aM hB
  have HF := aM h
  clear ho0 hB h
  go_enter Try.func34, Try.ntmps34
  go_upto_region 1 with (first | ((with_reducible refine gate_dst (N := 2) rfl ?_); refine box_event ?hg (N := 2) ?hd (cs := #[.int .i64 a0_0, .int .i64 a0_1, .slice A0_2 l0_2.length c0_2]) (t := 55) ?hr ?_; (case hd => rfl); (case hg => rfl); (case hr => first | (go_simp; done) | (go_simp; rfl)); intro g2 hg w2 hbox hb; have HO1 := aM (Kd.S_below HO0.out hb); have HB1 := aM (below_step HB.out hb); have HK1 := aM (Kept.below (Kept.refl w P) hb); have z0 : w2.cell? ⟨g2, 0, none⟩ = some (.int .i64 a0_0) := (blk_cell hbox 0).trans rfl; have z1 : w2.cell? ⟨g2, 1, none⟩ = some (.int .i64 a0_1) := (blk_cell hbox 1).trans rfl; have z2 : w2.cell? ⟨g2, 2, none⟩ = some (.slice A0_2 l0_2.length c0_2) := (blk_cell hbox 2).trans rfl; clear hg hbox hb HO0 HB))
  go_wp2_with (first | ((with_reducible refine gate_callee (f := 73) rfl ?_); refine goesL_ (some 8) rfl rfl Try.func73 (by kernel_rfl) rfl #[.slice A0_2 l0_2.length c0_2, .int .i64 a1] rfl (by (try simp only [List.map_toArray, List.map_cons, List.map_nil]); first | done | rfl) ?_; refine (laws_markChainS.calls k P _ _ l0_2 a1 r1 r2 w0 _ HB1.out HO1.out HF.out).mono ?_; rintro e w3 ⟨rfl, hy, hb, hk⟩; refine ⟨_, rfl, ?_⟩; have HY := aM hy; have HB2 := aM hb; have HK2 := aM (Kept.then_ HK1.out hk (fun k_ hk_ => Or.inl hk_)); clear hy hb hk z0 z1 z2))
  try go_wp2
  go_ret
  exact ⟨rfl, HY.out, HB2.out, HK2.out⟩
/-! ### append(v, ys...) of a row whose elements' rows are told apart, to one whose are -/
section
variable {P : Program} {ops : Array Oper} {rest : List Oper} {o : Oper} {a : Act} {Q : Exit → Act → World → Prop} {α : Type}
open Classical in
theorem S_append_rows (d : Kd α) {w0 W : World} (base : Nat) (hgd : o.guard = none) (s x : Operand) (t e e' : TypeId) (z : Value) (bytes : Nat)
    (ho : o.op = .call { callee := .builtin .append, args := #[s, x], argTypes := #[t, t] })
    (ht : P.underlying t = some (.slice e)) (hinfo : (P.info? e).map (fun i => (i.zero, i.size, i.bytes)) = some (some z, d.sz, bytes)) (hz : z.cells.size = d.sz) (hs0 : 0 < d.sz) (hb0 : 0 < bytes)
    (v : Value) (xs ys : List α) (A : Option Addr) (m c : Nat) (ok okp : Nat → Prop) (hs : a.eval s = v) (hx : a.eval x = .slice A m c)
    (HO : Kd.S d e W base (fun k => ok k ∧ ¬ okp k) v xs) (HY : Kd.S d e' W base okp (.slice A m c) ys) (hokp : ∀ k, okp k → ok k ∧ some k ≠ v.ownBlock) (hfresh : ∀ k, W.heap.size ≤ k → ok k)
    (HB : Below base w0 W) (hbase : base ≤ W.heap.size) (hl : (xs.length + m) * bytes ≤ 140737488355328)
    (h : ∀ v1 w1, Kd.S d e w1 base ok v1 (xs ++ ys) → Below base w0 w1 → W.grownBy w1 v.ownBlock → (v1.ownBlock = v.ownBlock ∨ ∃ b, v1.ownBlock = some b ∧ W.heap.size ≤ b) → wpList P ops Q rest (a.put o.dst v1) w1) :
    wpList P ops Q (o :: rest) a W := by
  obtain ⟨f1, hR1⟩ := HO
  obtain ⟨g, hY⟩ := HY
  have hR := Kd.R_tag (f' := fun k => if okp k then xs.length + g k else f1 k) hR1 (fun k hk _ => if_neg hk.2)
  obtain ⟨A', c', he, hlc, hrow⟩ := OwnRow.reads hY.2
  injection he with e1 e2 e3
  subst e1
  subst e3
  rw [List.length_zipIdx] at e2
  have hsz : (Kd.tag g d).sz = d.sz := rfl
  refine Kd.R_append_rows (Kd.tag (fun k => if okp k then xs.length + g k else f1 k) d) (Rr := fun p cs => (Kd.tag (fun k => if okp k then xs.length + g k else f1 k) d).M W base okp p cs) base hgd s x t e z bytes ho ht hinfo hz hs0 hb0 v xs.zipIdx (ys.zipIdx xs.length) A m c ok okp hs hx (Kd.R_mono hR (fun _ hk => hk.1)) ?row (fun _ _ h => h) hokp hfresh HB hbase (by rw [List.length_zipIdx]; exact hl) ?_
  case row =>
    refine ⟨by rw [List.length_zipIdx]; exact e2.symm, by rw [List.length_zipIdx] at hrow; rw [e2]; exact hrow.2.1, fun hn => ?_⟩
    rw [List.length_zipIdx] at hrow
    obtain ⟨ad, ea, hc⟩ := hrow.2.2 (by omega)
    refine ⟨ad, ea, fun j p hj => ?_⟩
    rw [List.getElem?_zipIdx] at hj
    obtain ⟨y, hy, rfl⟩ := Option.map_eq_some_iff.1 hj
    obtain ⟨cs, hcs, hr, hcell⟩ := hc j (y, j) (Kd.zip_at hy)
    refine ⟨cs, hcs, ?_, hcell⟩
    exact d.M_mono (fun k hk => ⟨hk.1.1, by show (if okp k then xs.length + g k else f1 k) = _; rw [if_pos hk.1.1, hk.2]⟩) hr
  intro v1 w1 hr hb hg hat
  have e2_ : (xs ++ ys).zipIdx = xs.zipIdx ++ ys.zipIdx xs.length := by rw [List.zipIdx_append, Nat.zero_add]
  exact h v1 w1 ⟨fun k => if okp k then xs.length + g k else f1 k, by rw [e2_]; exact hr⟩ hb hg hat
end
/-! ### impl.DropOver: function 22 (by hand) -/
def impl_DropOver2.go (a1 : Int) : List (S26) → List (S26) → List (S26) → Option (List (S26) × List (S26))
  | [], out, gone => some (out, gone)
  | a :: r, out, gone => (impl_Over.f a.f0 a.f1 a.f2 a.f3 a1).bind fun b => (impl_copyAlarm.f a.f0 a.f1 a.f2 a.f3).bind fun c => if b = true then (if gone.length < 549755813888 then impl_DropOver2.go a1 r out (gone ++ [(⟨c.1, c.2.1, c.2.2.1, c.2.2.2⟩ : S26)]) else none) else (if out.length < 549755813888 then impl_DropOver2.go a1 r (out ++ [(⟨c.1, c.2.1, c.2.2.1, c.2.2.2⟩ : S26)]) gone else none)
def impl_DropOver2.f (k : Nat) (a0_0 : Int) (l0_1 : List (S26)) (a1 : Int) : Option (Int × List (S26) × List (S26)) := (impl_DropOver2.go a1 l0_1 [] []).bind fun p => some (a0_0, p.1, p.2)
theorem drop_at {α : Type} (z : α) (l : List α) (i : Nat) (h : i < l.length) : l.drop i = l.getD i z :: l.drop (i + 1) := by
  rw [List.drop_eq_getElem_cons h, List.getD_eq_getElem?_getD, List.getElem?_eq_getElem h]; rfl
def laws_DropOver_.T8 : Bool × List (List Nat × List Nat) := (true, [([], []), ([0], [0]), ([], []), ([2], [2]), ([3], [3]), ([1, 4, 3], [1, 4]), ([0, 1, 2, 3, 4, 5], []), ([6, 5, 5, 0, 1, 2, 3, 4, 5], [5, 6])])
def laws_DropOver_.B8 : List Nat := [0, 1, 0, 4, 12, 31, 63, 127]
theorem laws_DropOver_.tab8 : rtab .any (opsOf Try.f22 8) = laws_DropOver_.T8 := by kernel_rfl
theorem laws_DropOver_.bits8 : waitsOk laws_DropOver_.T8.2 laws_DropOver_.B8 = true := by kernel_rfl
set_option maxHeartbeats 16000000 in
set_option maxRecDepth 100000 in
theorem impl_DropOver2.calls (k : Nat) (a0_0 : Int) (A0_1 : Option Addr) (c0_1 : Nat) (l0_1 : List (S26)) (a1 : Int) (r1 : Int) (r2 : List (S26)) (r3 : List (S26)) (w : World) (hr0_1 : Kd.C k26 w A0_1 l0_1.length l0_1) (hc0_1 : l0_1.length ≤ c0_1) (h : impl_DropOver2.f k a0_0 l0_1 a1 = some (r1, r2, r3)) :
    Calls Try.prog 22 #[.agg #[.int .i64 a0_0, .slice A0_1 l0_1.length c0_1], .int .i64 a1] w fun e w' => ∃ (v1_ v2_ : Value) (P : Nat → Prop), e = .returned (.tuple #[.agg #[.int .i64 r1, v1_], v2_]) ∧ Kd.S k26 26 w' w.heap.size (fun k_ => P k_) v1_ r2 ∧ Kd.S k26 26 w' w.heap.size (fun k_ => ¬ P k_) v2_ r3 ∧ Below w.heap.size w w' := by
 obtain ⟨⟨o_, g_⟩, hx, h⟩ := Option.bind_eq_some_iff.mp h
 dsimp only at hx h
 simp only [Option.some.injEq, Prod.mk.injEq] at h
 obtain ⟨rfl, rfl, rfl⟩ := h
 have HX := aM (show impl_DropOver2.go a1 (l0_1.drop 0) [] [] = some (o_, g_) from hx)
 clear hx
 have Hc0_1 := aM hc0_1
 have HR0_1 := aM hr0_1
 have G := (Gs.below w).add (Gs.top (Nat.le_refl w.heap.size))
 clear hc0_1 hr0_1
 go_enter Try.func22, Try.ntmps22
 go_upto_region 1 with (first | ((with_reducible refine gate_dst (N := 2) rfl ?_); refine box_event ?hg (N := 2) ?hd (cs := #[.int .i64 a0_0, .slice A0_1 l0_1.length c0_1]) (t := 39) ?hr ?_; (case hd => rfl); (case hg => rfl); (case hr => first | (go_simp; done) | (go_simp; rfl)); intro g2 hg w2 hbox hb; have Hg2 := aM (show w.heap.size ≤ g2 from hg ▸ G.at_.2); have G1 := (((G.go hb).add (Gs.ofBox2 hbox)).add (Gs.top (Nat.succ_le_of_lt (blk_lt hbox)))); clear hb hbox hg G; have G := G1; clear G1) | ((with_reducible refine gate_dst (N := 4) rfl ?_); refine box_event ?hg (N := 4) ?hd (cs := #[.int .i64 0, .slice none 0 0]) (t := 39) ?hr ?_; (case hd => rfl); (case hg => rfl); (case hr => first | (go_simp; done) | (go_simp; rfl)); intro g4 hg w2 hbox hb; have Hg4 := aM (show g2 + 1 ≤ g4 from hg ▸ G.at_.2); have G1 := (((G.go hb).add (Gs.blk hbox)).add (Gs.top (Nat.succ_le_of_lt (blk_lt hbox)))); clear hb hbox hg G; have G := G1; clear G1))
 obtain ⟨zg2_0, zg2_1⟩ := G.at_.1.1.1.2
 go_upto_region 2 with (first | ((with_reducible refine gate_dst (N := 6) rfl ?_); refine box_event ?hg (N := 6) ?hd (cs := #[.int .i64 0, .slice none 0 0]) (t := 39) ?hr ?_; (case hd => rfl); (case hg => rfl); (case hr => first | (go_simp; done) | (go_simp; rfl)); intro g6 hg w2 hbox hb; have Hg6 := aM (show g4 + 1 ≤ g6 from hg ▸ G.at_.2); have HB_g6 := aM hb; have HE_g6 := aM hg; have BK_g6 := aM hbox; have zg6_0 := cz2_0 ⟨hbox⟩; have yg6_0 := blk_frozen hbox 0; have zg6_1 := cz2_1 ⟨hbox⟩; have yg6_1 := blk_frozen hbox 1; clear hb hbox hg))
 (try clear zg2_0)
 (try clear zg2_1)
 (try clear zg6_0)
 (try clear yg6_0)
 (try clear zg6_1)
 (try clear yg6_1)
 have G1 := ((Gs.put2 (.int .i64 a0_0) (.slice none 0 0) G HB_g6 HE_g6 BK_g6).add (Gs.blk (set2_blk BK_g6.out))).add (Gs.top (Nat.succ_le_of_lt (blk_lt (set2_blk BK_g6.out))))
 clear G; have G := G1; clear G1
 generalize ((w2.setCell ⟨g6, 0, none⟩ (.int .i64 a0_0)).setCell ⟨g6, 1, none⟩ (.slice none 0 0)) = w3 at G ⊢
 clear HB_g6 HE_g6 BK_g6
 go_upto_region 3 with (fail)
 obtain ⟨zg2_0, zg2_1⟩ := G.at_.1.1.1.1.1.1.2
 have H4 := aM G.at_.1.1.1.1.2
 have H6 := aM G.at_.1.2
 have HB := aM G.at_.1.1.1.1.1.1.1.1
 clear G
 have HG4 := aM (show w.heap.size ≤ g4 from by have a_ := Hg2.out; have b_ := Hg4.out; omega)
 have HG6 := aM (show w.heap.size ≤ g6 from by have a_ := Hg2.out; have b_ := Hg4.out; have c_ := Hg6.out; omega)
 have N46 := aM (show g4 ≠ g6 from by have a_ := Hg4.out; have b_ := Hg6.out; omega)
 obtain ⟨n0, hn0⟩ : ∃ n, n = l0_1.length := ⟨_, rfl⟩
 have HN0 := aM hn0
 have hmx : n0 ≤ 9223372036854775807 := by rw [hn0]; exact HR0_1.out.2.1
 clear hn0
 go_wp2
 try clear zg2_0 zg2_1
 go_loopg [7, 16] l0_1.length (fun kx v7 v16 w' => ∃ (i : Nat) (out gone : List S26) (Ao Ag : Option Addr) (co cg : Nat) (P : Nat → Prop), v7 = .slice Ag gone.length cg ∧ v16 = .int .i64 (i : Int) ∧ i ≤ l0_1.length ∧ l0_1.length - i ≤ kx ∧ Aside0 (impl_DropOver2.go a1 (l0_1.drop i) out gone = some (o_, g_)) ∧ Aside0 (w'.heap[g4]? = some (.cells #[.int .i64 0, .slice none 0 0] 39 (0, 0))) ∧ Aside0 (w'.heap[g6]? = some (.cells #[.int .i64 a0_0, .slice Ao out.length co] 39 (0, 0))) ∧ Aside0 (Kd.S k26 26 w' w.heap.size (fun k_ => P k_) (.slice Ao out.length co) out) ∧ Aside0 (Kd.S k26 26 w' w.heap.size (fun k_ => ¬ P k_) (.slice Ag gone.length cg) gone) ∧ Aside0 (Below w.heap.size w w'))
 case atStart => exact ⟨0, [], [], none, none, 0, 0, fun _ => True, rfl, rfl, Nat.zero_le _, Nat.le_refl _, HX, H4, H6, ⟨Kd.S_nil _ _ _ _ _⟩, ⟨Kd.S_nil _ _ _ _ _⟩, HB⟩
 case round =>
  clear HX H4 H6 HB
  obtain ⟨i, out, gone, Ao, Ag, co, cg, P, rfl, rfl, hin, hkx, HG, H4, H6, HO, HQ, HB⟩ := hrel
  by_cases hlt : i < l0_1.length
  · skip
    have hmx2 : l0_1.length ≤ 9223372036854775807 := HR0_1.out.2.1
    have H := HG.out
    rw [drop_at z26 l0_1 i hlt] at H
    simp only [impl_DropOver2.go] at H
    obtain ⟨b, hb0, H⟩ := Option.bind_eq_some_iff.mp H
    obtain ⟨⟨lx, sx, ex, nx⟩, hc0, H⟩ := Option.bind_eq_some_iff.mp H
    dsimp only at hb0 hc0 H
    have AB := aM (show impl_Over.f (rd_T26 l0_1 (i : Int)).f0 (rd_T26 l0_1 (i : Int)).f1 (rd_T26 l0_1 (i : Int)).f2 (rd_T26 l0_1 (i : Int)).f3 a1 = some b from hb0)
    have AC := aM (show impl_copyAlarm.f (rd_T26 l0_1 (i : Int)).f0 (rd_T26 l0_1 (i : Int)).f1 (rd_T26 l0_1 (i : Int)).f2 (rd_T26 l0_1 (i : Int)).f3 = some (lx, sx, ex, nx) from hc0)
    clear hb0 hc0 HG
    obtain ⟨ad, Aa, ca, rfl, hx0, hx1, hx2, hx3, hla, hCa⟩ := at_T26 HR0_1.out (i : Int) (by omega) (by omega)
    simp only [Int.toNat_natCast] at hx0 hx1 hx2 hx3
    replace hx0 := pw_cell_below HB.out hx0
    replace hx1 := pw_cell_below HB.out hx1
    replace hx2 := pw_cell_below HB.out hx2
    replace hx3 := pw_cell_below HB.out hx3
    have HCw := aM hCa
    have HCa := aM (show Kd.C k89 wr Aa (rd_T26 l0_1 (i : Int)).f0.length (rd_T26 l0_1 (i : Int)).f0 from Kd.C_below hCa HB.out)
    have HLa := aM (show (rd_T26 l0_1 (i : Int)).f0.length ≤ ca from hla)
    clear hCa hla
    have hltb : decide ((i : Int) < (l0_1.length : Int)) = true := decide_eq_true (by omega)
    have p0t : (0 ≤ (i : Int)) = True := eq_true (by omega)
    have q0t : ((i : Int) < (l0_1.length : Int)) = True := eq_true (by omega)
    have q1t : (i < l0_1.length) = True := eq_true hlt
    go_upto_region 6 with (first | ((with_reducible refine gate_dst (N := 9) rfl ?_); refine box_event ?hg (N := 9) ?hd (cs := #[.slice none 0 0, .int .i64 0, .int .i64 0, .string (⟨#[]⟩ : ByteArray)]) (t := 26) ?hr ?_; (case hd => rfl); (case hg => rfl); (case hr => first | (go_simp; done) | (go_simp; rfl)); intro g9 hg w2 hbox hb; have HE := aM hg; have HV := aM hb; have HBK := aM hbox; have q0 := cz4_0 HBK; have q1 := cz4_1 HBK; have q2 := cz4_2 HBK; have q3 := cz4_3 HBK; have y0 := blk_frozen hbox 0; have y1 := blk_frozen hbox 1; have y2 := blk_frozen hbox 2; have y3 := blk_frozen hbox 3; clear hg hb hbox hx0 hx1 hx2 hx3))
    have hE := set4_below (b0 := (.slice Aa (rd_T26 l0_1 (i : Int)).f0.length ca)) (b1 := (.int .i64 (rd_T26 l0_1 (i : Int)).f1)) (b2 := (.int .i64 (rd_T26 l0_1 (i : Int)).f2)) (b3 := (.string (rd_T26 l0_1 (i : Int)).f3)) HV.out (Nat.le_of_eq HE.out.symm)
    have B9 := aM (set4_blk (b0 := (.slice Aa (rd_T26 l0_1 (i : Int)).f0.length ca)) (b1 := (.int .i64 (rd_T26 l0_1 (i : Int)).f1)) (b2 := (.int .i64 (rd_T26 l0_1 (i : Int)).f2)) (b3 := (.string (rd_T26 l0_1 (i : Int)).f3)) HBK.out)
    have HO1 := aM (Kd.S_below HO.out hE)
    have HQ1 := aM (Kd.S_below HQ.out hE)
    have H41 := aM (blk_below H4.out hE)
    have H61 := aM (blk_below H6.out hE)
    have HC1 := aM (Kd.C_below HCa.out hE)
    have HB1 := aM (below_step HB.out hE)
    clear hE HE HV HBK q0 q1 q2 q3 y0 y1 y2 y3 HO HQ H4 H6 HCa HB
    generalize ((((w2.setCell ⟨g9, 0, none⟩ (.slice Aa (rd_T26 l0_1 (i : Int)).f0.length ca)).setCell ⟨g9, 1, none⟩ (.int .i64 (rd_T26 l0_1 (i : Int)).f1)).setCell ⟨g9, 2, none⟩ (.int .i64 (rd_T26 l0_1 (i : Int)).f2)).setCell ⟨g9, 3, none⟩ (.string (rd_T26 l0_1 (i : Int)).f3)) = w3 at B9 HO1 HQ1 H41 H61 HC1 HB1 ⊢
    have z0 : w3.cell? ⟨g9, 0, none⟩ = some (.slice Aa (rd_T26 l0_1 (i : Int)).f0.length ca) := (blk_cell B9.out 0).trans rfl
    have z1 : w3.cell? ⟨g9, 1, none⟩ = some (.int .i64 (rd_T26 l0_1 (i : Int)).f1) := (blk_cell B9.out 1).trans rfl
    have z2 : w3.cell? ⟨g9, 2, none⟩ = some (.int .i64 (rd_T26 l0_1 (i : Int)).f2) := (blk_cell B9.out 2).trans rfl
    have z3 : w3.cell? ⟨g9, 3, none⟩ = some (.string (rd_T26 l0_1 (i : Int)).f3) := (blk_cell B9.out 3).trans rfl
    cases b with
    | true =>
     rw [if_pos rfl] at H
     by_cases hN : gone.length < 549755813888
     · skip
       rw [if_pos hN] at H
       have H' := aM H
       have LM := aM hN
       clear H hN
       go_upto_region 7 with (first | ((with_reducible refine gate_callee (f := 64) rfl ?_); refine goesL_ (some 22) rfl rfl Try.func64 (by kernel_rfl) rfl #[.agg #[.slice Aa (rd_T26 l0_1 (i : Int)).f0.length ca, .int .i64 (rd_T26 l0_1 (i : Int)).f1, .int .i64 (rd_T26 l0_1 (i : Int)).f2, .string (rd_T26 l0_1 (i : Int)).f3], .int .i64 a1] rfl (by (try simp only [List.map_toArray, List.map_cons, List.map_nil]); first | done | rfl) ?_; refine (impl_Over.calls _ _ (rd_T26 l0_1 (i : Int)).f0 (rd_T26 l0_1 (i : Int)).f1 (rd_T26 l0_1 (i : Int)).f2 (rd_T26 l0_1 (i : Int)).f3 a1 true _ HC1.out HLa.out AB.out).mono ?_; rintro e w4 ⟨rfl, hb⟩; refine ⟨_, rfl, ?_⟩; have hd := hb; have HO2 := aM (Kd.S_below HO1.out hd); have HQ2 := aM (Kd.S_below HQ1.out hd); have H42 := aM (blk_below H41.out hd); have H62 := aM (blk_below H61.out hd); have HC2 := aM (Kd.C_below HC1.out hd); have HB2 := aM (below_step HB1.out hd); have B92 := aM (blk_below B9.out hd); clear hb hd HO1 HQ1 H41 H61 HC1 HB1 B9 z0 z1 z2 z3))
       have z0 : w4.cell? ⟨g9, 0, none⟩ = some (.slice Aa (rd_T26 l0_1 (i : Int)).f0.length ca) := (blk_cell B92.out 0).trans rfl
       have z1 : w4.cell? ⟨g9, 1, none⟩ = some (.int .i64 (rd_T26 l0_1 (i : Int)).f1) := (blk_cell B92.out 1).trans rfl
       have z2 : w4.cell? ⟨g9, 2, none⟩ = some (.int .i64 (rd_T26 l0_1 (i : Int)).f2) := (blk_cell B92.out 2).trans rfl
       have z3 : w4.cell? ⟨g9, 3, none⟩ = some (.string (rd_T26 l0_1 (i : Int)).f3) := (blk_cell B92.out 3).trans rfl
       go_wp2_with (first | ((with_reducible refine gate_callee (f := 57) rfl ?_); refine goesL_ (some 25) rfl rfl Try.func57 (by kernel_rfl) rfl #[.agg #[.slice Aa (rd_T26 l0_1 (i : Int)).f0.length ca, .int .i64 (rd_T26 l0_1 (i : Int)).f1, .int .i64 (rd_T26 l0_1 (i : Int)).f2, .string (rd_T26 l0_1 (i : Int)).f3]] rfl (by (try simp only [List.map_toArray, List.map_cons, List.map_nil]); first | done | rfl) ?_; refine (impl_copyAlarm.calls _ _ (rd_T26 l0_1 (i : Int)).f0 (rd_T26 l0_1 (i : Int)).f1 (rd_T26 l0_1 (i : Int)).f2 (rd_T26 l0_1 (i : Int)).f3 lx sx ex nx _ HC2.out HLa.out AC.out).mono ?_; rintro e w5 ⟨v5_, rfl, ho, hb⟩; obtain ⟨An, cn, rfl, _, _⟩ := Kd.R_reads ho; refine ⟨_, rfl, ?_⟩; have HO3 := aM (Kd.S_bound HO2.out); have HQ3 := aM (Kd.S_bound HQ2.out); have HSZ := aM hb.size; have HO4 := aM (Kd.S_below HO3.out hb); have HQ4 := aM (Kd.S_below HQ3.out hb); have HX := aM (Kd.R_lower (Kd.R_bound ho) HB2.out.size); have H43 := aM (blk_below H42.out hb); have H63 := aM (blk_below H62.out hb); have HB3 := aM (below_step HB2.out hb); clear ho hb HO2 HQ2 HO3 HQ3 H42 H62 HC2 HB2 B92 z0 z1 z2 z3) | ((with_reducible refine gate_builtin (b := .append) (xs := #[.tmp 23, .tmp 26]) rfl ?_); at_builtin; refine Kd.S_append k26 (w0 := w) w.heap.size rfl (.tmp 23) (.tmp 26) 37 26 (.agg #[(.slice none 0 0), (.int .i64 0), (.int .i64 0), (.string ⟨#[]⟩)]) 56 rfl Try.underlying37 info26 rfl (by decide) (by omega) (.slice Ag gone.length cg) gone (⟨lx, sx, ex, nx⟩ : S26) [.slice An lx.length cn, .int .i64 sx, .int .i64 ex, .string nx] (fun k_ => ¬ (P k_ ∧ k_ < w4.heap.size)) (fun k_ => w4.heap.size ≤ k_) rfl rfl ?aP ?aQ ?aF ?aO HB3.out HB3.out.size ?aL ?_; (case aP => exact k26_mkM _ _ _ (⟨lx, sx, ex, nx⟩ : S26) (v0 := .slice An lx.length cn) (Kd.R_mono HX.out (fun k_ h_ => h_.2.1))); (case aQ => exact fun k_ hk_ => ⟨fun h_ => absurd h_.2 (by omega), fun e_ => by have q_ := (Kd.S_R HQ4.out).1 k_ e_.symm; have := q_.2.2.1; omega⟩); (case aF => exact fun k_ hk_ h_ => by have := HSZ.out; omega); (case aO => exact Kd.S_mono HQ4.out (fun k_ hk_ => ⟨fun h_ => hk_.1 h_.1, by have := hk_.2.2.1; omega⟩)); (case aL => have := LM.out; omega); intro v39 w6 ho hb hg hat; have hOO := (Kd.S_R HO4.out).1; have HQ6 := aM ho; have HB6 := aM hb; have HO6 := aM (Kd.S_grown (Kd.S_mono HO4.out (fun k_ hk_ => (⟨⟨hk_.1, hk_.2.2.1⟩, fun e_ => ((Kd.S_R HQ4.out).1 k_ e_.symm).1 hk_.1⟩ : (P k_ ∧ k_ < w4.heap.size) ∧ some k_ ≠ (Value.slice Ag gone.length cg).ownBlock))) hg (fun k_ h_ => h_.2)); have H46 := aM ((hg.block g4 (blk_lt H43.out) (Kd.S_ne HQ4.out H43.out (by decide))).trans H43.out); have H66 := aM ((hg.block g6 (blk_lt H63.out) (Kd.S_ne HQ4.out H63.out (by decide))).trans H63.out); clear ho hb hg hat hOO))
       obtain ⟨A6, c6, e6⟩ := Kd.S_slice HQ6.out
       subst e6
       go_roundg (l0_1.length - (i + 1))
       case measure => omega
       case rel => exact ⟨i + 1, out, gone ++ [(⟨lx, sx, ex, nx⟩ : S26)], Ao, A6, co, c6, fun k_ => P k_ ∧ k_ < w4.heap.size, rfl, by go_num, by omega, Nat.le_refl _, H', H46, H66, ⟨Kd.S_mono HO6.out (fun k_ h_ => h_.1)⟩, HQ6, HB6⟩
     · rw [if_neg hN] at H; cases H
    | false =>
     rw [if_neg (by decide)] at H
     by_cases hN : out.length < 549755813888
     · skip
       rw [if_pos hN] at H
       have H' := aM H
       have LM := aM hN
       clear H hN
       go_upto_region 8 with (first | ((with_reducible refine gate_callee (f := 64) rfl ?_); refine goesL_ (some 22) rfl rfl Try.func64 (by kernel_rfl) rfl #[.agg #[.slice Aa (rd_T26 l0_1 (i : Int)).f0.length ca, .int .i64 (rd_T26 l0_1 (i : Int)).f1, .int .i64 (rd_T26 l0_1 (i : Int)).f2, .string (rd_T26 l0_1 (i : Int)).f3], .int .i64 a1] rfl (by (try simp only [List.map_toArray, List.map_cons, List.map_nil]); first | done | rfl) ?_; refine (impl_Over.calls _ _ (rd_T26 l0_1 (i : Int)).f0 (rd_T26 l0_1 (i : Int)).f1 (rd_T26 l0_1 (i : Int)).f2 (rd_T26 l0_1 (i : Int)).f3 a1 false _ HC1.out HLa.out AB.out).mono ?_; rintro e w4 ⟨rfl, hb⟩; refine ⟨_, rfl, ?_⟩; have hd := hb; have HO2 := aM (Kd.S_below HO1.out hd); have HQ2 := aM (Kd.S_below HQ1.out hd); have H42 := aM (blk_below H41.out hd); have H62 := aM (blk_below H61.out hd); have HC2 := aM (Kd.C_below HC1.out hd); have HB2 := aM (below_step HB1.out hd); have B92 := aM (blk_below B9.out hd); clear hb hd HO1 HQ1 H41 H61 HC1 HB1 B9 z0 z1 z2 z3))
       have HO3 := aM (Kd.S_bound HO2.out)
       have HQ3 := aM (Kd.S_bound HQ2.out)
       have G := ((((Gs.bel HB2.out).add (Gs.top (Nat.le_refl w4.heap.size))).add (Gs.ofBox4 B92.out)).add (Gs.ofBox2 H62.out))
       clear HO2 HQ2 HC2 B92 HB2
       have Hca := HLa
       refine Gs.hide G (fun Ψ GP hP hQ_ => ?_)
       clear G
       refine regD [5, 7] GP (by kernel_rfl) rfl laws_DropOver_.tab8 laws_DropOver_.bits8 (fun wr hbr GV HT_ HW_ => ?_)
       have HO4 := aM (Kd.S_below HO3.out hbr)
       have HQ4 := aM (Kd.S_below HQ3.out hbr)
       have H43 := aM (blk_below H42.out hbr)
       have H63 := aM (blk_below H62.out hbr)
       clear GP hbr HO3 HQ3 H42 H62
       have HB := aM (Below.refl wr.heap.size wr)
       refine (pu 0 (some 28) 1 ?_ ?_ HT_ rfl rfl (by kernel_rfl) (fun _ _ _ h => h) ?_ ?_ ?_ (tk 1 (some 29) 3 ?_ ?_ HT_ HW_ rfl rfl (by kernel_rfl) (fun _ _ _ h => h) (GV.go HB.out).at_ ?_ ?_ ?_ (tk 2 (some 30) 7 ?_ ?_ HT_ HW_ rfl rfl (by kernel_rfl) (fun _ _ _ h => h) (GV.go HB.out).at_ ?_ ?_ ?_ ?_)))
       all_goals first | (rintro w' hp_; obtain ⟨⟨⟨-, -⟩, ⟨s0, s1, s2, s3⟩⟩, ⟨s4, s5⟩⟩ := hP _ hp_; go_simp; with_reducible rfl) | (intro w'; go_simp; with_reducible rfl) | (simp only [Act.put, List.setIfInBounds_toArray, List.set_cons_zero, List.set_cons_succ, i64_w, i32_w]; rfl) | rfl | skip
       refine rcD 3 31 15 HT_ rfl rfl (by decide) (by kernel_rfl) Try.func57 (by kernel_rfl) rfl rfl #[.agg #[.slice Aa (rd_T26 l0_1 (i : Int)).f0.length ca, .int .i64 ((rd_T26 l0_1 (i : Int)).f1), .int .i64 ((rd_T26 l0_1 (i : Int)).f2), .string ((rd_T26 l0_1 (i : Int)).f3)]] (by rfl) (by (try simp only [List.map_toArray, List.map_cons, List.map_nil]); first | done | rfl) ?_
       refine (impl_copyAlarm.calls _ _ ((rd_T26 l0_1 (i : Int)).f0) ((rd_T26 l0_1 (i : Int)).f1) ((rd_T26 l0_1 (i : Int)).f2) ((rd_T26 l0_1 (i : Int)).f3) lx sx ex nx _ (Kd.C_below HCw.out (hP _ (GV.go HB.out).at_).1.1.1) Hca.out AC.out).mono ?_
       rintro e w1 ⟨v31_0, rfl, ho31_0, hb⟩
       obtain ⟨A31_0, c31_0, rfl, _, _⟩ := Kd.R_reads ho31_0
       have hTop := (hP _ (GV.go HB.out).at_).1.1.2
       obtain ⟨loA31_0, hiA31_0, hOA31_0, hTA31_0, hSA31_0⟩ := newR (Nat.le_refl _) (hP _ (GV.go HB.out).at_).1.1.1 hb ho31_0
       have XA31_0 := Gs.ownR hSA31_0
       have OA31_0 := aM (And.intro (Nat.le_trans hTop hOA31_0.1) hOA31_0.2)
       (try clear HTI)
       have HTI := aM hTA31_0
       clear hTop
       have HB1 := aM (below_step HB.out hb); clear HB hb hOA31_0 hTA31_0 hSA31_0 ho31_0; have HB := HB1; clear HB1
       refine ⟨_, rfl, (GV.go HB.out).at_, ?_⟩; intro a' ha; simp only [Act.put, List.setIfInBounds_toArray, List.set_cons_zero, List.set_cons_succ, i64_w, i32_w] at ha; subst ha
       have hr := Kd.S_below HO4.out HB.out
       have hq := Kd.S_below HQ4.out HB.out
       have h4 := blk_below H43.out HB.out
       have h6 := blk_below H63.out HB.out
       have hbw := (hP _ (GV.go HB.out).at_).1.1.1
       have htp := (hP _ (GV.go HB.out).at_).1.1.2
       have hin := (Kd.S_R hr).1
       have hOX := OA31_0.out
       refine one_ (i := 4) (N := some 32) (bz 8 31) rfl rfl (one_of HT_.out (by kernel_rfl)) (by decide) (fun K hK => ?_)
       refine value_ (w1 := ?_) (v := ?_) (by rfl) rfl ?_ ?_
       rotate_left 2
       · go_simp
         constructor
         · rfl
         · rfl
       refine hK.out _ _ (GV.go (below_step HB.out (below_alloc (Below.refl _ _) _))).at_ (fun _ => ?_)
       clear hK K
       refine norm_ (a' := ?_) ?_ ?_
       rotate_left
       · show Act.put _ (some 32) _ = _
         simp only [Act.put, List.setIfInBounds_toArray, List.set_cons_zero, List.set_cons_succ, i64_w, i32_w]
         rfl
       refine last_ (i := 5) (N := some 33) (bz 8 63) rfl rfl (one_of HT_.out (by kernel_rfl)) (by decide) (fun K hK => ?_)
       refine Kd.S_append_step k26 (w0 := w) w.heap.size (by rfl) (.tmp 29) (.tmp 32) 37 26 (.agg #[(.slice none 0 0), (.int .i64 0), (.int .i64 0), (.string ⟨#[]⟩)]) 56 rfl Try.underlying37 info26 rfl (by decide) (by omega) (.slice Ao out.length co) out (⟨lx, sx, ex, nx⟩ : S26) [.slice A31_0 lx.length c31_0, .int .i64 sx, .int .i64 ex, .string nx] (fun k_ => P k_ ∨ w4.heap.size ≤ k_) (Iv loA31_0 hiA31_0) rfl rfl ?aP ?aQ ?aF ?aO ?aB ?aS ?aL ?_
       case aP => exact k26_mkM _ _ _ (⟨lx, sx, ex, nx⟩ : S26) (v0 := .slice A31_0 lx.length c31_0) XA31_0.at_
       case aQ => exact fun k_ h_ => ⟨Or.inr (by unfold Iv at h_; omega), fun h2_ => by have q_ := (hin k_ h2_.symm).2.2.1; unfold Iv at h_; omega⟩
       case aF => exact fun k_ h_ => Or.inr (Nat.le_trans htp h_)
       case aO => exact Kd.S_mono hr (fun k_ hk_ => ⟨Or.inl hk_.1, fun h_ => by have q_ := hk_.2.2.1; unfold Iv at h_; omega⟩)
       case aB => exact hbw
       case aS => exact hbw.size
       case aL => have := LM.out; omega
       intro v1 w2 ho hb hg hat
       obtain ⟨ml, hml⟩ : ∃ y_ : List S26, y_ = out ++ [(⟨lx, sx, ex, nx⟩ : S26)] := ⟨_, rfl⟩
       rw [← hml] at ho
       have NML := aM hml
       clear hml
       obtain ⟨An, cn, rfl⟩ := Kd.S_slice ho
       have H44 := aM ((hg.block g4 (blk_lt h4) (Kd.S_ne hr h4 (by decide))).trans h4)
       have H64 := aM ((hg.block g6 (blk_lt h6) (Kd.S_ne hr h6 (by decide))).trans h6)
       have HB5 := aM hb
       have HO5 := aM ho
       have HQ5 := aM (Kd.S_grown (Kd.S_mono hq (fun k_ hk_ => (⟨⟨hk_.1, hk_.2.2.1⟩, fun e_ => hk_.1 (hin k_ e_.symm).1⟩ : (¬ P k_ ∧ k_ < w4.heap.size) ∧ some k_ ≠ (Value.slice Ao out.length co).ownBlock))) hg (fun k_ h_ => h_.2))
       refine hK.out _ _ ?_
       clear hK K ho hb hg hat hr hq h4 h6 hbw htp hin hOX GV hP hQ_ HB
       refine norm_ (a' := ?_) ?_ ?_
       rotate_left
       · show Act.put _ (some 33) _ = _
         simp only [Act.put, List.setIfInBounds_toArray, List.set_cons_zero, List.set_cons_succ, i64_w, i32_w]
         rfl
       refine (pu 6 (some 34) 127 ?_ ?_ HT_ rfl rfl (by kernel_rfl) (fun _ _ _ h => h) ?_ ?_ ?_ ?_)
       all_goals first | (rintro w' hp_; obtain ⟨⟨⟨-, -⟩, ⟨s0, s1, s2, s3⟩⟩, ⟨s4, s5⟩⟩ := hP _ hp_; go_simp; with_reducible rfl) | (intro w'; go_simp; with_reducible rfl) | (simp only [Act.put, List.setIfInBounds_toArray, List.set_cons_zero, List.set_cons_succ, i64_w, i32_w]; rfl) | rfl | skip
       have z6_0 := cz2_0 H64
       have z6_1 := cz2_1 H64
       have y6_0 := blk_frozen H64.out 0
       have y6_1 := blk_frozen H64.out 1
       refine lsD 7 255 (w1 := ?w7_) HT_ rfl rfl (by decide) (by kernel_rfl) (by rfl) ?hr7_ ?_
       case hr7_ => go_simp; rfl
       clear z6_0 z6_1 y6_0 y6_1
       refine done_ (done_of HT_.out (by kernel_rfl)) ?_
       have H45 := aM ((Below.heap_setCell w2 ⟨g6, 1, none⟩ (.slice An ml.length cn) g4 N46.out).trans H44.out)
       have H65 := aM (show (w2.setCell ⟨g6, 1, none⟩ (.slice An ml.length cn)).heap[g6]? = some (.cells #[.int .i64 a0_0, .slice An ml.length cn] 39 (0, 0)) from blk_put H64.out 1 (.slice An ml.length cn) rfl)
       have HB6 := aM (show Below w.heap.size w (w2.setCell ⟨g6, 1, none⟩ (.slice An ml.length cn)) from below_set HB5.out HG6.out)
       have HO6 := aM (show Kd.S k26 26 (w2.setCell ⟨g6, 1, none⟩ (.slice An ml.length cn)) w.heap.size (fun k_ => P k_ ∨ w4.heap.size ≤ k_) (.slice An ml.length cn) ml from Kd.S_set HO5.out H64.out (by decide) 1 _)
       have HQ6 := aM (show Kd.S k26 26 (w2.setCell ⟨g6, 1, none⟩ (.slice An ml.length cn)) w.heap.size (fun k_ => (¬ P k_ ∧ k_ < w4.heap.size) ∧ some k_ ≠ (Value.slice Ao out.length co).ownBlock) (.slice Ag gone.length cg) gone from Kd.S_set HQ5.out H64.out (by decide) 1 _)
       clear H44 H64 HB5 HO5 HQ5
       generalize (w2.setCell ⟨g6, 1, none⟩ (.slice An ml.length cn)) = w9 at H45 H65 HB6 HO6 HQ6 ⊢
       go_wp2
       go_roundg (l0_1.length - (i + 1))
       case measure => omega
       case rel => exact ⟨i + 1, ml, gone, An, Ag, cn, cg, fun k_ => P k_ ∨ w4.heap.size ≤ k_, rfl, by go_num, by omega, Nat.le_refl _, ⟨by rw [NML.out]; exact H'.out⟩, H45, H65, HO6, ⟨Kd.S_mono HQ6.out (fun k_ h_ h2_ => h2_.elim h_.1.1 (fun h3_ => by have := h_.1.2; omega))⟩, HB6⟩
     · rw [if_neg hN] at H; cases H
  · skip
    have hltb : decide ((i : Int) < (l0_1.length : Int)) = false := decide_eq_false (by omega)
    have H := HG.out
    rw [List.drop_eq_nil_of_le (by omega)] at H
    simp only [impl_DropOver2.go, Option.some.injEq, Prod.mk.injEq] at H
    obtain ⟨rfl, rfl⟩ := H
    clear HG
    have z4_0 := cz2_0 H4
    have z4_1 := cz2_1 H4
    have y4_0 := blk_frozen H4.out 0
    have y4_1 := blk_frozen H4.out 1
    have z6_0 := cz2_0 H6
    have z6_1 := cz2_1 H6
    have n46 := N46.out
    have n64 : g6 ≠ g4 := fun h_ => n46 h_.symm
    go_wp2
    refine bodyPost_ret (results_ct rfl _ _ g4 39 #[.int .i64 a0_0, .slice Ao out.length co] (0, 0) _ rfl (set2_blk H4.out) Try.underlying39 rfl (by kernel_rfl)) rfl ?_
    exact ⟨_, _, P, rfl, Kd.S_set (Kd.S_set HO.out H4.out (by decide) 0 _) (blk_put H4.out 0 _ rfl) (by decide) 1 _, Kd.S_set (Kd.S_set HQ.out H4.out (by decide) 0 _) (blk_put H4.out 0 _ rfl) (by decide) 1 _, below_set (below_set HB.out HG4.out) HG4.out⟩
/-! ### impl.SweepIn: function 42 (by hand) -/
def impl_SweepIn2.go (k : Nat) (a1 : Int) : List (S39) → List (S39) → List (S26) → Option (List (S39) × List (S26))
  | [], out, gone => some (out, gone)
  | c :: r, out, gone => (impl_DropOver2.f k c.f0 c.f1 a1).bind fun d => if gone.length + d.2.2.length < 549755813888 then (if 0 < d.2.1.length then (if out.length < 549755813888 then impl_SweepIn2.go k a1 r (out ++ [(⟨d.1, d.2.1⟩ : S39)]) (gone ++ d.2.2) else none) else impl_SweepIn2.go k a1 r out (gone ++ d.2.2)) else none
def impl_SweepIn2.f (k : Nat) (a0_0 : Int) (a0_1 : Int) (l0_2 : List (S39)) (a1 : Int) : Option (Int × Int × List (S39) × List (S26)) := (impl_SweepIn2.go k a1 l0_2 [] []).bind fun p => some (a0_0, (if 0 < p.2.length then wrap64 (a0_1 + 1) else a0_1), p.1, p.2)
set_option maxHeartbeats 16000000 in
set_option maxRecDepth 100000 in
theorem impl_SweepIn2.calls (k : Nat) (a0_0 : Int) (a0_1 : Int) (A0_2 : Option Addr) (c0_2 : Nat) (l0_2 : List (S39)) (a1 : Int) (r1 : Int) (r2 : Int) (r3 : List (S39)) (r4 : List (S26)) (w : World) (hr0_2 : Kd.C k39 w A0_2 l0_2.length l0_2) (hc0_2 : l0_2.length ≤ c0_2) (h : impl_SweepIn2.f k a0_0 a0_1 l0_2 a1 = some (r1, r2, r3, r4)) :
    Calls Try.prog 42 #[.agg #[.int .i64 a0_0, .int .i64 a0_1, .slice A0_2 l0_2.length c0_2], .int .i64 a1] w fun e w' => ∃ (v2_ v3_ : Value) (P : Nat → Prop), e = .returned (.tuple #[.agg #[.int .i64 r1, .int .i64 r2, v2_], v3_]) ∧ Kd.S k39t 39 w' w.heap.size (fun k_ => P k_) v2_ r3 ∧ Kd.S k26 26 w' w.heap.size (fun k_ => ¬ P k_) v3_ r4 ∧ Below w.heap.size w w' := by
  obtain ⟨⟨o_, g_⟩, hx, h⟩ := Option.bind_eq_some_iff.mp h
  dsimp only at hx h
  simp only [Option.some.injEq, Prod.mk.injEq] at h
  obtain ⟨rfl, hr2, rfl, rfl⟩ := h
  have HX := aM (show impl_SweepIn2.go k a1 (l0_2.drop 0) [] [] = some (o_, g_) from hx)
  have HR2 := aM hr2
  have HR := aM hr0_2
  clear hx hr0_2 hc0_2 hr2
  have hmx : l0_2.length ≤ 9223372036854775807 := HR.out.2.1
  go_enter Try.func42, Try.ntmps42
  go_upto_region 1 with (first | ((with_reducible refine gate_dst (N := 2) rfl ?_); refine box_event ?hg (N := 2) ?hd (cs := #[.int .i64 a0_0, .int .i64 a0_1, .slice A0_2 l0_2.length c0_2]) (t := 55) ?hr ?_; (case hd => rfl); (case hg => rfl); (case hr => first | (go_simp; done) | (go_simp; rfl)); intro g2 hg w2 hbox hb; have HB := aM hb; have B2 := aM hbox; have H2 := aM hg; clear hg hbox hb) | ((with_reducible refine gate_dst (N := 4) rfl ?_); refine box_event ?hg (N := 4) ?hd (cs := #[.int .i64 0, .int .i64 0, .slice none 0 0]) (t := 55) ?hr ?_; (case hd => rfl); (case hg => rfl); (case hr => first | (go_simp; done) | (go_simp; rfl)); intro g4 hg w3 hbox hb; have HG4 := aM (show w.heap.size ≤ g4 by rw [hg]; exact HB.out.size); have B21 := aM (blk_below B2.out hb); have B4 := aM hbox; have HB1 := aM (below_step HB.out hb); clear HB B2; have z20 : w3.cell? ⟨g2, 0, none⟩ = some (.int .i64 a0_0) := (blk_cell B21.out 0).trans rfl; have z21 : w3.cell? ⟨g2, 1, none⟩ = some (.int .i64 a0_1) := (blk_cell B21.out 1).trans rfl; have z22 : w3.cell? ⟨g2, 2, none⟩ = some (.slice A0_2 l0_2.length c0_2) := (blk_cell B21.out 2).trans rfl; clear hg hbox hb))
  go_upto_region 2 with (first | ((with_reducible refine gate_dst (N := 6) rfl ?_); refine box_event ?hg (N := 6) ?hd (cs := #[.int .i64 0, .int .i64 0, .slice none 0 0]) (t := 55) ?hr ?_; (case hd => rfl); (case hg => rfl); (case hr => first | (go_simp; done) | (go_simp; rfl)); intro g6 hg w4 hbox hb; have HG6 := aM (show w.heap.size ≤ g6 by rw [hg]; exact HB1.out.size); have N46 := aM (show g4 ≠ g6 by rw [hg]; exact Nat.ne_of_lt (blk_lt B4.out)); have N26 := aM (show g2 ≠ g6 by rw [hg]; exact Nat.ne_of_lt (blk_lt B21.out)); have B22 := aM (blk_below B21.out hb); have B41 := aM (blk_below B4.out hb); have B6 := aM hbox; have HB2 := aM (below_step HB1.out hb); have z60 := cz3_0 B6; have z61 := cz3_1 B6; have z62 := cz3_2 B6; have y60 := blk_frozen hbox 0; have y61 := blk_frozen hbox 1; have y62 := blk_frozen hbox 2; clear z20 z21 z22 hg hbox hb HB1 B21 B4))
  have H6 := aM (set3_blk (b0 := .int .i64 a0_0) (b1 := .int .i64 a0_1) (b2 := .slice none 0 0) B6.out)
  have H4 := aM (set3_far (b0 := .int .i64 a0_0) (b1 := .int .i64 a0_1) (b2 := .slice none 0 0) B41.out N46.out)
  have H2_ := aM (set3_far (b0 := .int .i64 a0_0) (b1 := .int .i64 a0_1) (b2 := .slice none 0 0) B22.out N26.out)
  have HB3 := aM (set3_below (b0 := .int .i64 a0_0) (b1 := .int .i64 a0_1) (b2 := .slice none 0 0) HB2.out HG6.out)
  clear B6 B41 B22 HB2 z60 z61 z62 y60 y61 y62
  generalize (((w4.setCell ⟨g6, 0, none⟩ (.int .i64 a0_0)).setCell ⟨g6, 1, none⟩ (.int .i64 a0_1)).setCell ⟨g6, 2, none⟩ (.slice none 0 0)) = w5 at H6 H4 H2_ HB3 ⊢
  have z20 : w5.cell? ⟨g2, 0, none⟩ = some (.int .i64 a0_0) := (blk_cell H2_.out 0).trans rfl
  have z21 : w5.cell? ⟨g2, 1, none⟩ = some (.int .i64 a0_1) := (blk_cell H2_.out 1).trans rfl
  have z22 : w5.cell? ⟨g2, 2, none⟩ = some (.slice A0_2 l0_2.length c0_2) := (blk_cell H2_.out 2).trans rfl
  go_wp2
  clear z20 z21 z22
  go_loopg [7, 20] l0_2.length (fun kx v7 v20 w' => ∃ (i : Nat) (out : List (S39)) (gone : List (S26)) (Ao Ag : Option Addr) (co cg : Nat) (P : Nat → Prop), v7 = .slice Ag gone.length cg ∧ v20 = .int .i64 (i : Int) ∧ i ≤ l0_2.length ∧ l0_2.length - i ≤ kx ∧ Aside0 (impl_SweepIn2.go k a1 (l0_2.drop i) out gone = some (o_, g_)) ∧ Aside0 (w'.heap[g4]? = some (.cells #[.int .i64 0, .int .i64 0, .slice none 0 0] 55 (0, 0))) ∧ Aside0 (w'.heap[g6]? = some (.cells #[.int .i64 a0_0, .int .i64 a0_1, .slice Ao out.length co] 55 (0, 0))) ∧ Aside0 (Kd.S k39t 39 w' w.heap.size (fun k_ => P k_) (.slice Ao out.length co) out) ∧ Aside0 (Kd.S k26 26 w' w.heap.size (fun k_ => ¬ P k_) (.slice Ag gone.length cg) gone) ∧ Aside0 (Below w.heap.size w w'))
  case atStart => exact ⟨0, [], [], none, none, 0, 0, fun _ => True, rfl, rfl, Nat.zero_le _, Nat.le_refl _, HX, H4, H6, ⟨Kd.S_nil _ _ _ _ _⟩, ⟨Kd.S_nil _ _ _ _ _⟩, HB3⟩
  case round =>
    clear HX H4 H6 HB3 H2_
    obtain ⟨i, out, gone, Ao, Ag, co, cg, P, rfl, rfl, hin, hkx, HG, H4, H6, HO, HQ, HB⟩ := hrel
    by_cases hlt : i < l0_2.length
    · have H := HG.out
      rw [drop_at z39 l0_2 i hlt] at H
      simp only [impl_SweepIn2.go] at H
      obtain ⟨⟨df, dl, dg⟩, hd0, H⟩ := Option.bind_eq_some_iff.mp H
      dsimp only at hd0 H
      have AD := aM (show impl_DropOver2.f k (rd_T39 l0_2 (i : Int)).f0 (rd_T39 l0_2 (i : Int)).f1 a1 = some (df, dl, dg) from hd0)
      clear hd0 HG
      by_cases hN : gone.length + dg.length < 549755813888
      · rw [if_pos hN] at H
        have LM := aM hN
        have HH := aM H
        clear hN H
        obtain ⟨ad, Aa, ca, rfl, hx0, hx1, hla, hCa⟩ := at_T39 HR.out (i : Int) (by omega) (by omega)
        simp only [Int.toNat_natCast] at hx0 hx1
        replace hx0 := pw_cell_below HB.out hx0
        replace hx1 := pw_cell_below HB.out hx1
        have HCa := aM (Kd.C_below hCa HB.out)
        have HLa := aM hla
        clear hla hCa
        have hltb : decide ((i : Int) < (l0_2.length : Int)) = true := decide_eq_true (by omega)
        have p0t : (0 ≤ (i : Int)) = True := eq_true (by omega)
        have q0t : ((i : Int) < (l0_2.length : Int)) = True := eq_true (by omega)
        have q1t : (i < l0_2.length) = True := eq_true hlt
        go_upto_region 6 with (first | ((with_reducible refine gate_dst (N := 9) rfl ?_); refine box_event ?hg (N := 9) ?hd (cs := #[.int .i64 0, .slice none 0 0]) (t := 39) ?hr ?_; (case hd => rfl); (case hg => rfl); (case hr => first | (go_simp; done) | (go_simp; rfl)); intro g9 hg w2 hbox hb; have HE := aM hg; have HV := aM hb; have HBK := aM hbox; have q0 := cz2_0 HBK; have q1 := cz2_1 HBK; have y0 := blk_frozen hbox 0; have y1 := blk_frozen hbox 1; clear hg hb hbox hx0 hx1))
        have hE := set2_below (b0 := (.int .i64 (rd_T39 l0_2 (i : Int)).f0)) (b1 := (.slice Aa (rd_T39 l0_2 (i : Int)).f1.length ca)) HV.out (Nat.le_of_eq HE.out.symm)
        have B9 := aM (set2_blk (b0 := (.int .i64 (rd_T39 l0_2 (i : Int)).f0)) (b1 := (.slice Aa (rd_T39 l0_2 (i : Int)).f1.length ca)) HBK.out)
        have HO1 := aM (Kd.S_below HO.out hE)
        have HQ1 := aM (Kd.S_below HQ.out hE)
        have H41 := aM (blk_below H4.out hE)
        have H61 := aM (blk_below H6.out hE)
        have HC1 := aM (Kd.C_below HCa.out hE)
        have HB1 := aM (below_step HB.out hE)
        clear hE HE HV HBK q0 q1 y0 y1 HO HQ H4 H6 HCa HB
        generalize ((w2.setCell ⟨g9, 0, none⟩ (.int .i64 (rd_T39 l0_2 (i : Int)).f0)).setCell ⟨g9, 1, none⟩ (.slice Aa (rd_T39 l0_2 (i : Int)).f1.length ca)) = w3 at B9 HO1 HQ1 H41 H61 HC1 HB1 ⊢
        have z0 : w3.cell? ⟨g9, 0, none⟩ = some (.int .i64 (rd_T39 l0_2 (i : Int)).f0) := (blk_cell B9.out 0).trans rfl
        have z1 : w3.cell? ⟨g9, 1, none⟩ = some (.slice Aa (rd_T39 l0_2 (i : Int)).f1.length ca) := (blk_cell B9.out 1).trans rfl
        go_upto_region 7 with (first | ((with_reducible refine gate_callee (f := 22) rfl ?_); refine goesL_ (some 27) rfl rfl Try.func22 (by kernel_rfl) rfl #[.agg #[.int .i64 (rd_T39 l0_2 (i : Int)).f0, .slice Aa (rd_T39 l0_2 (i : Int)).f1.length ca], .int .i64 a1] rfl (by (try simp only [List.map_toArray, List.map_cons, List.map_nil]); first | done | rfl) ?_; refine (impl_DropOver2.calls k (rd_T39 l0_2 (i : Int)).f0 _ _ (rd_T39 l0_2 (i : Int)).f1 a1 df dl dg _ HC1.out HLa.out AD.out).mono ?_; rintro e w6 ⟨v1_, v2_, Pd, rfl, ho1, ho2, hb⟩; obtain ⟨A1, c1_, rfl, _, _⟩ := Kd.S_reads ho1; obtain ⟨A2, c2_, rfl, _, _⟩ := Kd.S_reads ho2; refine ⟨_, rfl, ?_⟩; have HO2 := aM (Kd.S_below (Kd.S_bound HO1.out) hb); have HQ2 := aM (Kd.S_below (Kd.S_bound HQ1.out) hb); have HSZ := aM hb.size; have HD1 := aM (Kd.S_lower (Kd.S_bound ho1) HB1.out.size); have HD2 := aM (Kd.S_lower (Kd.S_bound ho2) HB1.out.size); have H42 := aM (blk_below H41.out hb); have H62 := aM (blk_below H61.out hb); have HB2 := aM (below_step HB1.out hb); clear ho1 ho2 hb HO1 HQ1 H41 H61 HC1 HB1 B9 z0 z1) | ((with_reducible refine gate_dst (N := 10) rfl ?_); refine box_event ?hg (N := 10) ?hd (cs := #[.int .i64 0, .slice none 0 0]) (t := 39) ?hr ?_; (case hd => rfl); (case hg => rfl); (case hr => first | (go_simp; done) | (go_simp; rfl)); intro g10 hg w7 hbox hb; have HE := aM hg; have HV := aM hb; have HBK := aM hbox; have q0 := cz2_0 HBK; have q1 := cz2_1 HBK; have y0 := blk_frozen hbox 0; have y1 := blk_frozen hbox 1; clear hg hb hbox))
        have hE2 := set2_below (b0 := (.int .i64 df)) (b1 := (.slice A1 dl.length c1_)) HV.out (Nat.le_of_eq HE.out.symm)
        have B10 := aM (set2_blk (b0 := (.int .i64 df)) (b1 := (.slice A1 dl.length c1_)) HBK.out)
        have HO3 := aM (Kd.S_below HO2.out hE2)
        have HQ3 := aM (Kd.S_below HQ2.out hE2)
        have HD13 := aM (Kd.S_below HD1.out hE2)
        have HD23 := aM (Kd.S_below HD2.out hE2)
        have H43 := aM (blk_below H42.out hE2)
        have H63 := aM (blk_below H62.out hE2)
        have HB3 := aM (below_step HB2.out hE2)
        have HSZ2 := aM hE2.size
        have N610 := aM (show g6 ≠ g10 by rw [HE.out]; exact Nat.ne_of_lt (blk_lt H62.out))
        clear hE2 HE HV HBK q0 q1 y0 y1 HO2 HQ2 HD1 HD2 H42 H62 HB2
        generalize ((w7.setCell ⟨g10, 0, none⟩ (.int .i64 df)).setCell ⟨g10, 1, none⟩ (.slice A1 dl.length c1_)) = w8 at B10 HO3 HQ3 HD13 HD23 H43 H63 HB3 HSZ2 ⊢
        have z100 := cz2_0 B10
        have z101 := cz2_1 B10
        by_cases hdl : 0 < dl.length
        · have H := HH.out
          rw [if_pos hdl] at H
          have c1 : decide ((0 : Int) < (dl.length : Int)) = true := decide_eq_true (by omega)
          have c2 : decide (0 < dl.length) = true := decide_eq_true hdl
          by_cases hO : out.length < 549755813888
          · rw [if_pos hO] at H
            have HH2 := aM H
            have LO := aM hO
            clear H hO HH
            have z60 := cz3_0 H63
            have z61 := cz3_1 H63
            have z62 := cz3_2 H63
            go_upto_region 9 with (first | ((with_reducible refine gate_builtin (b := .append) (xs := #[.tmp 35, .tmp 37]) rfl ?_); at_builtin; refine Kd.S_append k39t (w0 := w) w.heap.size rfl (.tmp 35) (.tmp 37) 53 39 (.agg #[(.int .i64 0), (.slice none 0 0)]) 32 rfl Try.underlying53 info39 rfl (by decide) (by omega) (.slice Ao out.length co) out (⟨df, dl⟩ : S39) [.int .i64 df, .slice A1 dl.length c1_] (fun k_ => (P k_ ∧ k_ < w3.heap.size) ∨ (Pd k_ ∧ w3.heap.size ≤ k_ ∧ k_ < w6.heap.size) ∨ w8.heap.size ≤ k_) (fun k_ => Pd k_ ∧ w3.heap.size ≤ k_ ∧ k_ < w6.heap.size) rfl rfl ?aP ?aQ ?aF ?aO HB3.out HB3.out.size ?aL ?_; (case aP => exact k39t_mkM _ _ _ (⟨df, dl⟩ : S39) (v0 := .slice A1 dl.length c1_) (Kd.S_mono HD13.out (fun k_ h_ => ⟨h_.1, h_.2.1, h_.2.2.1⟩))); (case aQ => exact fun k_ hk_ => ⟨Or.inr (Or.inl hk_), fun e_ => by have q_ := ((Kd.S_R HO3.out).1 k_ e_.symm).2.2.1; omega⟩); (case aF => exact fun k_ hk_ => Or.inr (Or.inr hk_)); (case aO => exact Kd.S_mono HO3.out (fun k_ hk_ => ⟨Or.inl ⟨hk_.1, hk_.2.2.1⟩, fun h_ => by have := hk_.2.2.1; omega⟩)); (case aL => have := LO.out; omega); intro v38 w9 ho hb hg hat; obtain ⟨ml, hml⟩ : ∃ y_ : List S39, y_ = out ++ [(⟨df, dl⟩ : S39)] := ⟨_, rfl⟩; rw [← hml] at ho; have NML := aM hml; clear hml; obtain ⟨An, cn, rfl⟩ := Kd.S_slice ho; have HO4 := aM (Kd.S_bound ho); have HB4 := aM hb; have HSZ3 := aM hg.size; have H44 := aM ((hg.block g4 (blk_lt H43.out) (Kd.S_ne HO3.out H43.out (by decide))).trans H43.out); have H64 := aM ((hg.block g6 (blk_lt H63.out) (Kd.S_ne HO3.out H63.out (by decide))).trans H63.out); have HQ4 := aM (Kd.S_grown (Kd.S_mono HQ3.out (fun k_ hk_ => (⟨⟨hk_.1, hk_.2.2.1⟩, fun e_ => hk_.1 ((Kd.S_R HO3.out).1 k_ e_.symm).1⟩ : (¬ P k_ ∧ k_ < w3.heap.size) ∧ some k_ ≠ (Value.slice Ao out.length co).ownBlock))) hg (fun k_ h_ => h_.2)); have HD24 := aM (Kd.S_grown (Kd.S_mono HD23.out (fun k_ hk_ => (⟨⟨hk_.1, hk_.2.1, hk_.2.2.1⟩, fun e_ => by have q_ := ((Kd.S_R HO3.out).1 k_ e_.symm).2.2.1; have := hk_.2.1; omega⟩ : (¬ Pd k_ ∧ w3.heap.size ≤ k_ ∧ k_ < w6.heap.size) ∧ some k_ ≠ (Value.slice Ao out.length co).ownBlock))) hg (fun k_ h_ => h_.2)); have z62_ := cz3_2 H64; have y62_ := blk_frozen H64.out 2; clear ho hb hg hat z60 z61 z62 z100 z101))
            clear z62_ y62_
            have H45 := aM ((Below.heap_setCell w9 ⟨g6, 2, none⟩ (.slice An ml.length cn) g4 N46.out).trans H44.out)
            have H65 := aM (blk_put H64.out 2 (.slice An ml.length cn) rfl)
            have HB5 := aM (show Below w.heap.size w (w9.setCell ⟨g6, 2, none⟩ (.slice An ml.length cn)) from below_set HB4.out HG6.out)
            have HO5 := aM (Kd.S_set HO4.out H64.out (by decide) 2 (.slice An ml.length cn))
            have HQ5 := aM (Kd.S_set HQ4.out H64.out (by decide) 2 (.slice An ml.length cn))
            have HD25 := aM (Kd.S_set HD24.out H64.out (by decide) 2 (.slice An ml.length cn))
            have HSE : Aside0 ((w9.setCell ⟨g6, 2, none⟩ (.slice An ml.length cn)).heap.size = w9.heap.size) := aM (by simp [World.setCell])
            clear HB4 HO4 HQ4 HD24 H44 H64
            generalize (w9.setCell ⟨g6, 2, none⟩ (.slice An ml.length cn)) = wE at H45 H65 HB5 HO5 HQ5 HD25 HSE ⊢
            go_wp2_with (first | ((with_reducible refine gate_builtin (b := .append) (xs := #[.tmp 40, .tmp 41]) rfl ?_); at_builtin; refine S_append_rows k26 (w0 := w) w.heap.size rfl (.tmp 40) (.tmp 41) 37 26 26 (.agg #[(.slice none 0 0), (.int .i64 0), (.int .i64 0), (.string ⟨#[]⟩)]) 56 rfl Try.underlying37 info26 rfl (by decide) (by omega) (.slice Ag gone.length cg) gone dg A2 dg.length c2_ (fun k_ => ¬ ((P k_ ∧ k_ < w3.heap.size) ∨ (Pd k_ ∧ w3.heap.size ≤ k_ ∧ k_ < w6.heap.size) ∨ (w8.heap.size ≤ k_ ∧ k_ < w9.heap.size))) (fun k_ => ¬ Pd k_ ∧ w3.heap.size ≤ k_ ∧ k_ < w6.heap.size) rfl rfl ?aO ?aY ?aQ ?aF HB5.out HB5.out.size ?aL ?_; (case aO => exact Kd.S_mono HQ5.out (fun k_ hk_ => ⟨fun h_ => by have a_ := HSZ.out; have b_ := HSZ2.out; have c_ := hk_.1.2; rcases h_ with h_ | h_ | h_; exact hk_.1.1 h_.1; omega; omega, fun h_ => by have c_ := hk_.1.2; omega⟩)); (case aY => exact Kd.S_mono HD25.out (fun k_ hk_ => hk_.1)); (case aF => exact fun k_ hk_ h_ => by have a_ := HSZ.out; have b_ := HSZ2.out; have c_ := HSZ3.out; have d_ := HSE.out; omega); (case aQ => exact fun k_ hk_ => ⟨fun h_ => by have b_ := HSZ2.out; rcases h_ with h_ | h_ | h_; omega; exact hk_.1 h_.1; omega, fun e_ => by have q_ := ((Kd.S_R HQ5.out).1 k_ e_.symm).1.2; omega⟩); (case aL => have := LM.out; omega); intro v39 w10 ho hb hg hat; have HQ6 := aM ho; have HB6 := aM hb; have HO6 := aM (Kd.S_grown (Kd.S_mono HO5.out (fun k_ hk_ => (⟨by rcases hk_.1 with h_ | h_ | h_; exact Or.inl h_; exact Or.inr (Or.inl h_); exact Or.inr (Or.inr ⟨h_, hk_.2.2.1⟩), fun e_ => by have q_ := ((Kd.S_R HQ5.out).1 k_ e_.symm).1; have b_ := HSZ2.out; have a_ := HSZ.out; rcases hk_.1 with h_ | h_ | h_; exact q_.1 h_.1; omega; omega⟩ : ((P k_ ∧ k_ < w3.heap.size) ∨ (Pd k_ ∧ w3.heap.size ≤ k_ ∧ k_ < w6.heap.size) ∨ (w8.heap.size ≤ k_ ∧ k_ < w9.heap.size)) ∧ some k_ ≠ (Value.slice Ag gone.length cg).ownBlock))) hg (fun k_ h_ => h_.2)); have H46 := aM ((hg.block g4 (blk_lt H45.out) (Kd.S_ne HQ5.out H45.out (by decide))).trans H45.out); have H66 := aM ((hg.block g6 (blk_lt H65.out) (Kd.S_ne HQ5.out H65.out (by decide))).trans H65.out); clear ho hb hg hat))
            obtain ⟨A6, c6, e6⟩ := Kd.S_slice HQ6.out
            subst e6
            go_roundg (l0_2.length - (i + 1))
            case measure => omega
            case rel => exact ⟨i + 1, ml, gone ++ dg, An, A6, cn, c6, fun k_ => ((P k_ ∧ k_ < w3.heap.size) ∨ (Pd k_ ∧ w3.heap.size ≤ k_ ∧ k_ < w6.heap.size) ∨ (w8.heap.size ≤ k_ ∧ k_ < w9.heap.size)), rfl, by go_num, by omega, Nat.le_refl _, ⟨by rw [NML.out]; exact HH2.out⟩, H46, H66, ⟨Kd.S_mono HO6.out (fun k_ h_ => h_.1)⟩, HQ6, HB6⟩
          · rw [if_neg hO] at H; cases H
        · have H := HH.out
          rw [if_neg hdl] at H
          have HH2 := aM H
          clear H HH
          have c1 : decide ((0 : Int) < (dl.length : Int)) = false := decide_eq_false (by omega)
          have c2 : decide (0 < dl.length) = false := decide_eq_false hdl
          go_wp2_with (first | ((with_reducible refine gate_builtin (b := .append) (xs := #[.tmp 40, .tmp 41]) rfl ?_); at_builtin; refine S_append_rows k26 (w0 := w) w.heap.size rfl (.tmp 40) (.tmp 41) 37 26 26 (.agg #[(.slice none 0 0), (.int .i64 0), (.int .i64 0), (.string ⟨#[]⟩)]) 56 rfl Try.underlying37 info26 rfl (by decide) (by omega) (.slice Ag gone.length cg) gone dg A2 dg.length c2_ (fun k_ => ¬ (P k_ ∧ k_ < w3.heap.size)) (fun k_ => ¬ Pd k_ ∧ w3.heap.size ≤ k_) rfl rfl ?aO ?aY ?aQ ?aF HB3.out HB3.out.size ?aL ?_; (case aO => exact Kd.S_mono HQ3.out (fun k_ hk_ => ⟨fun h_ => hk_.1 h_.1, fun h_ => by have := hk_.2.2.1; omega⟩)); (case aY => exact Kd.S_mono HD23.out (fun k_ hk_ => ⟨hk_.1, hk_.2.1⟩)); (case aF => exact fun k_ hk_ h_ => by have := HSZ.out; have := HSZ2.out; omega); (case aQ => exact fun k_ hk_ => ⟨fun h_ => by omega, fun e_ => by have q_ := ((Kd.S_R HQ3.out).1 k_ e_.symm).2.2.1; omega⟩); (case aL => have := LM.out; omega); intro v39 w9 ho hb hg hat; have HQ4 := aM ho; have HB4 := aM hb; have HO4 := aM (Kd.S_grown (Kd.S_mono HO3.out (fun k_ hk_ => (⟨⟨hk_.1, hk_.2.2.1⟩, fun e_ => ((Kd.S_R HQ3.out).1 k_ e_.symm).1 hk_.1⟩ : (P k_ ∧ k_ < w3.heap.size) ∧ some k_ ≠ (Value.slice Ag gone.length cg).ownBlock))) hg (fun k_ h_ => h_.2)); have H44 := aM ((hg.block g4 (blk_lt H43.out) (Kd.S_ne HQ3.out H43.out (by decide))).trans H43.out); have H64 := aM ((hg.block g6 (blk_lt H63.out) (Kd.S_ne HQ3.out H63.out (by decide))).trans H63.out); clear ho hb hg hat))
          obtain ⟨A6, c6, e6⟩ := Kd.S_slice HQ4.out
          subst e6
          go_roundg (l0_2.length - (i + 1))
          case measure => omega
          case rel => exact ⟨i + 1, out, gone ++ dg, Ao, A6, co, c6, fun k_ => P k_ ∧ k_ < w3.heap.size, rfl, by go_num, by omega, Nat.le_refl _, HH2, H44, H64, ⟨Kd.S_mono HO4.out (fun k_ h_ => h_.1)⟩, HQ4, HB4⟩
      · rw [if_neg hN] at H; cases H
    · have hltb : decide ((i : Int) < (l0_2.length : Int)) = false := decide_eq_false (by omega)
      have H := HG.out
      rw [List.drop_eq_nil_of_le (by omega)] at H
      simp only [impl_SweepIn2.go, Option.some.injEq, Prod.mk.injEq] at H
      obtain ⟨rfl, rfl⟩ := H
      have z40 := cz3_0 H4
      have z41 := cz3_1 H4
      have z42 := cz3_2 H4
      have y40 := blk_frozen H4.out 0
      have y41 := blk_frozen H4.out 1
      have y42 := blk_frozen H4.out 2
      have z60 := cz3_0 H6
      have z61 := cz3_1 H6
      have z62 := cz3_2 H6
      have y61 := blk_frozen H6.out 1
      have n46 := N46.out
      have n64 : g6 ≠ g4 := fun h_ => n46 h_.symm
      by_cases hgl : 0 < gone.length
      · have hR := HR2.out
        rw [if_pos hgl] at hR
        subst hR
        have c1 : decide ((0 : Int) < (gone.length : Int)) = true := decide_eq_true (by omega)
        have c2 : decide (0 < gone.length) = true := decide_eq_true hgl
        go_wp2
        refine bodyPost_ret (results_ct rfl _ _ g4 55 #[.int .i64 a0_0, .int .i64 (wrap64 (a0_1 + 1)), .slice Ao out.length co] (0, 0) _ rfl (set3_blk ((Below.heap_setCell _ ⟨g6, 1, none⟩ _ g4 n46).trans H4.out)) Try.underlying55 rfl (by kernel_rfl)) rfl ?_
        have hb4 := (Below.heap_setCell wr ⟨g6, 1, none⟩ (.int .i64 (wrap64 (a0_1 + 1))) g4 n46).trans H4.out
        have s3 := fun {α : Type} {d : Kd α} {e : Nat} {ok : Nat → Prop} {v : Value} {xs : List α} (h : Kd.S d e wr w.heap.size ok v xs) (ht : ∀ q, q ∈ e :: d.E → q ≠ 55) => Kd.S_set (Kd.S_set (Kd.S_set (Kd.S_set h H6.out ht 1 (.int .i64 (wrap64 (a0_1 + 1)))) hb4 ht 0 (.int .i64 a0_0)) (blk_put hb4 0 (.int .i64 a0_0) rfl) ht 1 (.int .i64 (wrap64 (a0_1 + 1)))) (blk_put (blk_put hb4 0 (.int .i64 a0_0) rfl) 1 (.int .i64 (wrap64 (a0_1 + 1))) rfl) ht 2 (.slice Ao out.length co)
        exact ⟨_, _, P, rfl, s3 HO.out (by decide), s3 HQ.out (by decide), below_set (below_set (below_set (below_set HB.out HG6.out) HG4.out) HG4.out) HG4.out⟩
      · have hR := HR2.out
        rw [if_neg hgl] at hR
        subst hR
        have c1 : decide ((0 : Int) < (gone.length : Int)) = false := decide_eq_false (by omega)
        have c2 : decide (0 < gone.length) = false := decide_eq_false hgl
        go_wp2
        refine bodyPost_ret (results_ct rfl _ _ g4 55 #[.int .i64 a0_0, .int .i64 a0_1, .slice Ao out.length co] (0, 0) _ rfl (set3_blk H4.out) Try.underlying55 rfl (by kernel_rfl)) rfl ?_
        have s3 := fun {α : Type} {d : Kd α} {e : Nat} {ok : Nat → Prop} {v : Value} {xs : List α} (h : Kd.S d e wr w.heap.size ok v xs) (ht : ∀ q, q ∈ e :: d.E → q ≠ 55) => Kd.S_set (Kd.S_set (Kd.S_set h H4.out ht 0 (.int .i64 a0_0)) (blk_put H4.out 0 (.int .i64 a0_0) rfl) ht 1 (.int .i64 a0_1)) (blk_put (blk_put H4.out 0 (.int .i64 a0_0) rfl) 1 (.int .i64 a0_1) rfl) ht 2 (.slice Ao out.length co)
        exact ⟨_, _, P, rfl, s3 HO.out (by decide), s3 HQ.out (by decide), below_set (below_set (below_set HB.out HG4.out) HG4.out) HG4.out⟩
/-! ### spec.SweepIn: function 41 (by hand; its two rows may share what their elements lead to: it is only read) -/
def spec_SweepIn2.go (k : Nat) (a1 : Int) : List (S39) → List (S39) → List (S26) → Option (List (S39) × List (S26))
  | [], out, gone => some (out, gone)
  | c :: r, out, gone => (spec_DropOver.f k c.f0 c.f1 a1).bind fun d => if gone.length + d.2.2.length < 549755813888 then (if 0 < d.2.1.length then (if out.length < 549755813888 then spec_SweepIn2.go k a1 r (out ++ [(⟨d.1, d.2.1⟩ : S39)]) (gone ++ d.2.2) else none) else spec_SweepIn2.go k a1 r out (gone ++ d.2.2)) else none
def spec_SweepIn2.f (k : Nat) (a0_0 : Int) (a0_1 : Int) (l0_2 : List (S39)) (a1 : Int) : Option (Int × Int × List (S39) × List (S26)) := (spec_SweepIn2.go k a1 l0_2 [] []).bind fun p => some (a0_0, (if 0 < p.2.length then wrap64 (a0_1 + 1) else a0_1), p.1, p.2)
set_option maxHeartbeats 16000000 in
set_option maxRecDepth 100000 in
theorem spec_SweepIn2.calls (k : Nat) (a0_0 : Int) (a0_1 : Int) (A0_2 : Option Addr) (c0_2 : Nat) (l0_2 : List (S39)) (a1 : Int) (r1 : Int) (r2 : Int) (r3 : List (S39)) (r4 : List (S26)) (w : World) (hr0_2 : Kd.C k39 w A0_2 l0_2.length l0_2) (hc0_2 : l0_2.length ≤ c0_2) (h : spec_SweepIn2.f k a0_0 a0_1 l0_2 a1 = some (r1, r2, r3, r4)) :
    Calls Try.prog 41 #[.agg #[.int .i64 a0_0, .int .i64 a0_1, .slice A0_2 l0_2.length c0_2], .int .i64 a1] w fun e w' => ∃ v2_ v3_ : Value, e = .returned (.tuple #[.agg #[.int .i64 r1, .int .i64 r2, v2_], v3_]) ∧ Kd.S k39t 39 w' w.heap.size (fun _ => True) v2_ r3 ∧ Kd.S k26 26 w' w.heap.size (fun _ => True) v3_ r4 ∧ Below w.heap.size w w' := by
  obtain ⟨⟨o_, g_⟩, hx, h⟩ := Option.bind_eq_some_iff.mp h
  dsimp only at hx h
  simp only [Option.some.injEq, Prod.mk.injEq] at h
  obtain ⟨rfl, hr2, rfl, rfl⟩ := h
  have HX := aM (show spec_SweepIn2.go k a1 (l0_2.drop 0) [] [] = some (o_, g_) from hx)
  have HR2 := aM hr2
  have HR := aM hr0_2
  clear hx hr0_2 hc0_2 hr2
  have hmx : l0_2.length ≤ 9223372036854775807 := HR.out.2.1
  go_enter Try.func41, Try.ntmps41
  go_upto_region 1 with (first | ((with_reducible refine gate_dst (N := 2) rfl ?_); refine box_event ?hg (N := 2) ?hd (cs := #[.int .i64 a0_0, .int .i64 a0_1, .slice A0_2 l0_2.length c0_2]) (t := 55) ?hr ?_; (case hd => rfl); (case hg => rfl); (case hr => first | (go_simp; done) | (go_simp; rfl)); intro g2 hg w2 hbox hb; have HB := aM hb; have B2 := aM hbox; have H2 := aM hg; clear hg hbox hb) | ((with_reducible refine gate_dst (N := 4) rfl ?_); refine box_event ?hg (N := 4) ?hd (cs := #[.int .i64 0, .int .i64 0, .slice none 0 0]) (t := 55) ?hr ?_; (case hd => rfl); (case hg => rfl); (case hr => first | (go_simp; done) | (go_simp; rfl)); intro g4 hg w3 hbox hb; have HG4 := aM (show w.heap.size ≤ g4 by rw [hg]; exact HB.out.size); have B21 := aM (blk_below B2.out hb); have B4 := aM hbox; have HB1 := aM (below_step HB.out hb); clear HB B2; have z20 : w3.cell? ⟨g2, 0, none⟩ = some (.int .i64 a0_0) := (blk_cell B21.out 0).trans rfl; have z21 : w3.cell? ⟨g2, 1, none⟩ = some (.int .i64 a0_1) := (blk_cell B21.out 1).trans rfl; have z22 : w3.cell? ⟨g2, 2, none⟩ = some (.slice A0_2 l0_2.length c0_2) := (blk_cell B21.out 2).trans rfl; clear hg hbox hb))
  go_upto_region 2 with (first | ((with_reducible refine gate_dst (N := 6) rfl ?_); refine box_event ?hg (N := 6) ?hd (cs := #[.int .i64 0, .int .i64 0, .slice none 0 0]) (t := 55) ?hr ?_; (case hd => rfl); (case hg => rfl); (case hr => first | (go_simp; done) | (go_simp; rfl)); intro g6 hg w4 hbox hb; have A0 := below_alloc (Below.refl w3.heap.size w3) (.cells #[] 39); have HBa := below_step HB1.out A0; have HS0 : Kd.S k39t 39 (w3.alloc (.cells #[] 39)) w.heap.size (fun _ => True) (.slice (some ⟨w3.heap.size, 0, none⟩) ([] : List S39).length 0) [] := ⟨fun _ => 0, fun _ _ => trivial, OwnRow.lit w3 w.heap.size (Reps.none _ _) HB1.out.size (by simp)⟩; have HG6 := aM (show w.heap.size ≤ g6 by rw [hg]; exact HBa.size); have N46 := aM (show g4 ≠ g6 by rw [hg]; exact Nat.ne_of_lt (blk_lt (blk_below B4.out A0))); have N26 := aM (show g2 ≠ g6 by rw [hg]; exact Nat.ne_of_lt (blk_lt (blk_below B21.out A0))); have B22 := aM (blk_below (blk_below B21.out A0) hb); have B41 := aM (blk_below (blk_below B4.out A0) hb); have B6 := aM hbox; have HB2 := aM (below_step HBa hb); have HS1 := aM (Kd.S_below HS0 hb); have HW3 := aM (show w3.heap.size < w4.heap.size from Nat.lt_of_lt_of_le (by simp) hb.size); have z60 := cz3_0 B6; have z61 := cz3_1 B6; have z62 := cz3_2 B6; have y60 := blk_frozen hbox 0; have y61 := blk_frozen hbox 1; have y62 := blk_frozen hbox 2; clear z20 z21 z22 hg hbox hb HB1 B21 B4 A0 HBa HS0))
  have HS2 := aM (Kd.S_set (Kd.S_set (Kd.S_set HS1.out B6.out (by decide) 0 (.int .i64 a0_0)) (blk_put B6.out 0 (.int .i64 a0_0) rfl) (by decide) 1 (.int .i64 a0_1)) (blk_put (blk_put B6.out 0 (.int .i64 a0_0) rfl) 1 (.int .i64 a0_1) rfl) (by decide) 2 (.slice (some ⟨w3.heap.size, 0, none⟩) 0 0))
  have H6 := aM (set3_blk (b0 := .int .i64 a0_0) (b1 := .int .i64 a0_1) (b2 := .slice (some ⟨w3.heap.size, 0, none⟩) 0 0) B6.out)
  have H4 := aM (set3_far (b0 := .int .i64 a0_0) (b1 := .int .i64 a0_1) (b2 := .slice (some ⟨w3.heap.size, 0, none⟩) 0 0) B41.out N46.out)
  have H2_ := aM (set3_far (b0 := .int .i64 a0_0) (b1 := .int .i64 a0_1) (b2 := .slice (some ⟨w3.heap.size, 0, none⟩) 0 0) B22.out N26.out)
  have HB3 := aM (set3_below (b0 := .int .i64 a0_0) (b1 := .int .i64 a0_1) (b2 := .slice (some ⟨w3.heap.size, 0, none⟩) 0 0) HB2.out HG6.out)
  have HSZ : Aside0 ((((w4.setCell ⟨g6, 0, none⟩ (.int .i64 a0_0)).setCell ⟨g6, 1, none⟩ (.int .i64 a0_1)).setCell ⟨g6, 2, none⟩ (.slice (some ⟨w3.heap.size, 0, none⟩) 0 0)).heap.size = w4.heap.size) := aM (by simp [World.setCell])
  clear B6 B41 B22 HB2 z60 z61 z62 y60 y61 y62 HS1
  generalize (((w4.setCell ⟨g6, 0, none⟩ (.int .i64 a0_0)).setCell ⟨g6, 1, none⟩ (.int .i64 a0_1)).setCell ⟨g6, 2, none⟩ (.slice (some ⟨w3.heap.size, 0, none⟩) 0 0)) = w5 at HS2 H6 H4 H2_ HB3 HSZ ⊢
  go_upto_region 3 with (fail)
  have A0 := below_alloc (Below.refl w5.heap.size w5) (.cells #[] 26)
  have HQ0 := aM (show Kd.S k26 26 (w5.alloc (.cells #[] 26)) w.heap.size (fun k_ => some k_ ≠ (Value.slice (some ⟨w3.heap.size, 0, none⟩) ([] : List S39).length 0).ownBlock) (.slice (some ⟨w5.heap.size, 0, none⟩) ([] : List S26).length 0) [] from Kd.S_lower (Kd.S_mono (Kd.S_bound (show Kd.S k26 26 (w5.alloc (.cells #[] 26)) w5.heap.size (fun _ => True) (.slice (some ⟨w5.heap.size, 0, none⟩) ([] : List S26).length 0) [] from ⟨fun _ => 0, fun _ _ => trivial, OwnRow.lit w5 w5.heap.size (Reps.none _ _) (Nat.le_refl _) (by simp)⟩)) (fun k_ h_ e_ => by have h1_ := h_.2.1; have h2_ := HSZ.out; have h3_ := HW3.out; have h4_ : k_ = w3.heap.size := Option.some.inj e_; omega)) HB3.out.size)
  have HO0 := aM (Kd.S_mono (Kd.S_below (Kd.S_bound HS2.out) A0) (fun k_ h_ => (fun e_ => by have h1_ := h_.2.2.1; have h4_ : k_ = w5.heap.size := Option.some.inj e_; omega : some k_ ≠ (Value.slice (some ⟨w5.heap.size, 0, none⟩) ([] : List S26).length 0).ownBlock)))
  have H6a := aM (blk_below H6.out A0)
  have H4a := aM (blk_below H4.out A0)
  have H2a := aM (blk_below H2_.out A0)
  have HB4 := aM (below_step HB3.out A0)
  clear HS2 H6 H4 H2_ HB3 HSZ HW3 A0
  generalize w5.alloc (.cells #[] 26) = w6 at HQ0 HO0 H6a H4a H2a HB4 ⊢
  go_wp2
  go_loopg [7, 8] l0_2.length (fun kx v7 v8 w' => ∃ (i : Nat) (out : List (S39)) (gone : List (S26)) (Ao Ag : Option Addr) (co cg : Nat), v7 = .slice Ag gone.length cg ∧ v8 = .int .i64 (i : Int) ∧ i ≤ l0_2.length ∧ l0_2.length - i ≤ kx ∧ Aside0 (spec_SweepIn2.go k a1 (l0_2.drop i) out gone = some (o_, g_)) ∧ Aside0 (w'.heap[g2]? = some (.cells #[.int .i64 a0_0, .int .i64 a0_1, .slice A0_2 l0_2.length c0_2] 55 (0, 0))) ∧ Aside0 (w'.heap[g4]? = some (.cells #[.int .i64 0, .int .i64 0, .slice none 0 0] 55 (0, 0))) ∧ Aside0 (w'.heap[g6]? = some (.cells #[.int .i64 a0_0, .int .i64 a0_1, .slice Ao out.length co] 55 (0, 0))) ∧ Aside0 (Kd.S k39t 39 w' w.heap.size (fun k_ => some k_ ≠ (Value.slice Ag gone.length cg).ownBlock) (.slice Ao out.length co) out) ∧ Aside0 (Kd.S k26 26 w' w.heap.size (fun k_ => some k_ ≠ (Value.slice Ao out.length co).ownBlock) (.slice Ag gone.length cg) gone) ∧ Aside0 (Below w.heap.size w w'))
  case atStart => exact ⟨0, [], [], _, _, 0, 0, rfl, rfl, Nat.zero_le _, Nat.le_refl _, HX, H2a, H4a, H6a, HO0, HQ0, HB4⟩
  case round =>
    clear HX H4a H6a H2a HB4 HO0 HQ0
    obtain ⟨i, out, gone, Ao, Ag, co, cg, rfl, rfl, hin, hkx, HG, H2, H4, H6, HO, HQ, HB⟩ := hrel
    have z20 := cz3_0 H2
    have z21 := cz3_1 H2
    have z22 := cz3_2 H2
    by_cases hlt : i < l0_2.length
    · have H := HG.out
      rw [drop_at z39 l0_2 i hlt] at H
      simp only [spec_SweepIn2.go] at H
      obtain ⟨⟨df, dl, dg⟩, hd0, H⟩ := Option.bind_eq_some_iff.mp H
      dsimp only at hd0 H
      have AD := aM (show spec_DropOver.f k (rd_T39 l0_2 (i : Int)).f0 (rd_T39 l0_2 (i : Int)).f1 a1 = some (df, dl, dg) from hd0)
      clear hd0 HG
      by_cases hN : gone.length + dg.length < 549755813888
      · rw [if_pos hN] at H
        have LM := aM hN
        have HH := aM H
        clear hN H
        obtain ⟨ad, Aa, ca, rfl, hx0, hx1, hla, hCa⟩ := at_T39 HR.out (i : Int) (by omega) (by omega)
        simp only [Int.toNat_natCast] at hx0 hx1
        replace hx0 := pw_cell_below HB.out hx0
        replace hx1 := pw_cell_below HB.out hx1
        have HCa := aM (Kd.C_below hCa HB.out)
        have HLa := aM hla
        clear hla hCa
        have hltb : decide ((i : Int) < (l0_2.length : Int)) = true := decide_eq_true (by omega)
        have p0t : (0 ≤ (i : Int)) = True := eq_true (by omega)
        have q0t : ((i : Int) < (l0_2.length : Int)) = True := eq_true (by omega)
        have q1t : (i < l0_2.length) = True := eq_true hlt
        go_upto_region 7 with (first | ((with_reducible refine gate_callee (f := 20) rfl ?_); refine goesL_ (some 32) rfl rfl Try.func20 (by kernel_rfl) rfl #[.agg #[.int .i64 (rd_T39 l0_2 (i : Int)).f0, .slice Aa (rd_T39 l0_2 (i : Int)).f1.length ca], .int .i64 a1] rfl (by (try simp only [List.map_toArray, List.map_cons, List.map_nil]); first | done | rfl) ?_; refine (spec_DropOver.calls k (rd_T39 l0_2 (i : Int)).f0 _ _ (rd_T39 l0_2 (i : Int)).f1 a1 df dl dg _ HCa.out HLa.out AD.out).mono ?_; rintro e wd ⟨v1_, v2_, rfl, ho1, ho2, hb⟩; obtain ⟨A1, c1_, rfl, _, _⟩ := Kd.S_reads ho1; obtain ⟨A2, c2_, rfl, _, _⟩ := Kd.S_reads ho2; refine ⟨_, rfl, ?_⟩; have HO2 := aM (Kd.S_below (Kd.S_bound HO.out) hb); have HQ2 := aM (Kd.S_below (Kd.S_bound HQ.out) hb); have HSZ := aM hb.size; have HD1 := aM (Kd.S_lower (Kd.S_bound ho1) HB.out.size); have HD2 := aM (Kd.S_lower (Kd.S_bound ho2) HB.out.size); have H22 := aM (blk_below H2.out hb); have H42 := aM (blk_below H4.out hb); have H62 := aM (blk_below H6.out hb); have HB2 := aM (below_step HB.out hb); clear ho1 ho2 hb HO HQ H4 H6 H2 HCa HB hx0 hx1 z20 z21 z22) | ((with_reducible refine gate_dst (N := 9) rfl ?_); refine box_event ?hg (N := 9) ?hd (cs := #[.int .i64 0, .slice none 0 0]) (t := 39) ?hr ?_; (case hd => rfl); (case hg => rfl); (case hr => first | (go_simp; done) | (go_simp; rfl)); intro g10 hg w7 hbox hb; have HE := aM hg; have HV := aM hb; have HBK := aM hbox; have q0 := cz2_0 HBK; have q1 := cz2_1 HBK; have y0 := blk_frozen hbox 0; have y1 := blk_frozen hbox 1; clear hg hb hbox))
        have hE2 := set2_below (b0 := (.int .i64 df)) (b1 := (.slice A1 dl.length c1_)) HV.out (Nat.le_of_eq HE.out.symm)
        have B10 := aM (set2_blk (b0 := (.int .i64 df)) (b1 := (.slice A1 dl.length c1_)) HBK.out)
        have HO3 := aM (Kd.S_below HO2.out hE2)
        have HQ3 := aM (Kd.S_below HQ2.out hE2)
        have HD13 := aM (Kd.S_below HD1.out hE2)
        have HD23 := aM (Kd.S_below HD2.out hE2)
        have H23 := aM (blk_below H22.out hE2)
        have H43 := aM (blk_below H42.out hE2)
        have H63 := aM (blk_below H62.out hE2)
        have HB3 := aM (below_step HB2.out hE2)
        have HSZ2 := aM hE2.size
        have HLE := aM (show wr.heap.size ≤ g10 by rw [HE.out]; exact HSZ.out)
        clear hE2 HE HV HBK q0 q1 y0 y1 HO2 HQ2 HD1 HD2 H42 H62 H22 HB2
        generalize ((w7.setCell ⟨g10, 0, none⟩ (.int .i64 df)).setCell ⟨g10, 1, none⟩ (.slice A1 dl.length c1_)) = w8 at B10 HO3 HQ3 HD13 HD23 H23 H43 H63 HB3 HSZ2 ⊢
        have z100 := cz2_0 B10
        have z101 := cz2_1 B10
        go_upto_region 8 with (first | ((with_reducible refine gate_builtin (b := .append) (xs := #[.tmp 35, .tmp 36]) rfl ?_); at_builtin; refine S_append_rows k26 (w0 := w) w.heap.size rfl (.tmp 35) (.tmp 36) 37 26 26 (.agg #[(.slice none 0 0), (.int .i64 0), (.int .i64 0), (.string ⟨#[]⟩)]) 56 rfl Try.underlying37 info26 rfl (by decide) (by omega) (.slice Ag gone.length cg) gone dg A2 dg.length c2_ (fun k_ => some k_ ≠ (Value.slice Ao out.length co).ownBlock) (fun k_ => wr.heap.size ≤ k_) rfl rfl ?aO ?aY ?aQ ?aF HB3.out HB3.out.size ?aL ?_; (case aO => exact Kd.S_mono HQ3.out (fun k_ hk_ => ⟨hk_.1, fun h_ => by have := hk_.2.2.1; omega⟩)); (case aY => exact Kd.S_mono HD23.out (fun k_ hk_ => hk_.2.1)); (case aF => exact fun k_ hk_ e_ => by have a_ := HSZ.out; have b_ := HSZ2.out; have q_ := ((Kd.S_R HO3.out).1 k_ e_.symm).2.2.1; omega); (case aQ => exact fun k_ hk_ => ⟨fun e_ => by have q_ := ((Kd.S_R HO3.out).1 k_ e_.symm).2.2.1; omega, fun e_ => by have q_ := ((Kd.S_R HQ3.out).1 k_ e_.symm).2.2.1; omega⟩); (case aL => have := LM.out; omega); intro v39 w9 ho hb hg hat; obtain ⟨mg, hmg⟩ : ∃ y_ : List S26, y_ = gone ++ dg := ⟨_, rfl⟩; rw [← hmg] at ho; have NMG := aM hmg; clear hmg; obtain ⟨An, cn, rfl⟩ := Kd.S_slice ho; have HQ4 := aM ho; have HB4 := aM hb; have HO4 := aM (Kd.S_after (Kd.S_mono HO3.out (fun k_ hk_ => (⟨hk_.2.2.1, hk_.1⟩ : k_ < wr.heap.size ∧ some k_ ≠ (Value.slice Ag gone.length cg).ownBlock))) hg hat); have HD14 := aM (Kd.S_after (Kd.S_mono HD13.out (fun k_ hk_ => (⟨hk_.2.1, fun e_ => by have q_ := ((Kd.S_R HQ3.out).1 k_ e_.symm).2.2.1; have := hk_.2.1; omega⟩ : wr.heap.size ≤ k_ ∧ some k_ ≠ (Value.slice Ag gone.length cg).ownBlock))) hg hat); have H24 := aM ((hg.block g2 (blk_lt H23.out) (Kd.S_ne HQ3.out H23.out (by decide))).trans H23.out); have H44 := aM ((hg.block g4 (blk_lt H43.out) (Kd.S_ne HQ3.out H43.out (by decide))).trans H43.out); have H64 := aM ((hg.block g6 (blk_lt H63.out) (Kd.S_ne HQ3.out H63.out (by decide))).trans H63.out); have B11 := aM ((hg.block g10 (blk_lt B10.out) (Kd.S_ne HQ3.out B10.out (by decide))).trans B10.out); clear ho hb hg hat z100 z101 HQ3 HO3 HD13 HD23 H23 H43 H63 B10 HB3))
        have z100 := cz2_0 B11
        have z101 := cz2_1 B11
        by_cases hdl : 0 < dl.length
        · have H := HH.out
          rw [if_pos hdl] at H
          have c1 : decide ((0 : Int) < (dl.length : Int)) = true := decide_eq_true (by omega)
          have c2 : decide (0 < dl.length) = true := decide_eq_true hdl
          by_cases hO : out.length < 549755813888
          · rw [if_pos hO] at H
            have HH2 := aM H
            have LO := aM hO
            clear H hO HH
            have z60 := cz3_0 H64
            have z61 := cz3_1 H64
            have z62 := cz3_2 H64
            go_upto_region 5 with (first | ((with_reducible refine gate_builtin (b := .append) (xs := #[.tmp 43, .tmp 45]) rfl ?_); at_builtin; refine Kd.S_append k39t (w0 := w) w.heap.size rfl (.tmp 43) (.tmp 45) 53 39 (.agg #[(.int .i64 0), (.slice none 0 0)]) 32 rfl Try.underlying53 info39 rfl (by decide) (by omega) (.slice Ao out.length co) out (⟨df, dl⟩ : S39) [.int .i64 df, .slice A1 dl.length c1_] (fun k_ => some k_ ≠ (Value.slice An mg.length cn).ownBlock) (fun k_ => wr.heap.size ≤ k_ ∧ some k_ ≠ (Value.slice An mg.length cn).ownBlock) rfl rfl ?aP ?aQ ?aF ?aO HB4.out HB4.out.size ?aL ?_; (case aP => exact k39t_mkM _ _ _ (⟨df, dl⟩ : S39) (v0 := .slice A1 dl.length c1_) HD14.out); (case aQ => exact fun k_ hk_ => ⟨hk_.2, fun e_ => by have q_ := ((Kd.S_R HO4.out).1 k_ e_.symm).1; have := hk_.1; omega⟩); (case aF => exact fun k_ hk_ e_ => by have := Kd.S_lt HQ4.out k_ e_.symm; omega); (case aO => exact Kd.S_mono HO4.out (fun k_ hk_ => ⟨hk_.2, fun h_ => by have a_ := hk_.1; have b_ := h_.1; omega⟩)); (case aL => have := LO.out; omega); intro v38 w10 ho hb hg hat; obtain ⟨ml, hml⟩ : ∃ y_ : List S39, y_ = out ++ [(⟨df, dl⟩ : S39)] := ⟨_, rfl⟩; rw [← hml] at ho; have NML := aM hml; clear hml; obtain ⟨Am, cm, rfl⟩ := Kd.S_slice ho; have HO5 := aM ho; have HB5 := aM hb; have H25 := aM ((hg.block g2 (blk_lt H24.out) (Kd.S_ne HO4.out H24.out (by decide))).trans H24.out); have H45 := aM ((hg.block g4 (blk_lt H44.out) (Kd.S_ne HO4.out H44.out (by decide))).trans H44.out); have H65 := aM ((hg.block g6 (blk_lt H64.out) (Kd.S_ne HO4.out H64.out (by decide))).trans H64.out); have HQ5 := aM (Kd.S_after (Kd.S_mono HQ4.out (fun k_ hk_ => (⟨trivial, hk_⟩ : True ∧ some k_ ≠ (Value.slice Ao out.length co).ownBlock))) hg hat); have z62_ := cz3_2 H65; have y62_ := blk_frozen H65.out 2; clear ho hb hg hat z60 z61 z62 z100 z101))
            clear z62_ y62_
            have H26 := aM ((Below.heap_setCell w10 ⟨g6, 2, none⟩ (.slice Am ml.length cm) g2 N26.out).trans H25.out)
            have H46 := aM ((Below.heap_setCell w10 ⟨g6, 2, none⟩ (.slice Am ml.length cm) g4 N46.out).trans H45.out)
            have H66 := aM (blk_put H65.out 2 (.slice Am ml.length cm) rfl)
            have HB6 := aM (show Below w.heap.size w (w10.setCell ⟨g6, 2, none⟩ (.slice Am ml.length cm)) from below_set HB5.out HG6.out)
            have HO6 := aM (Kd.S_set HO5.out H65.out (by decide) 2 (.slice Am ml.length cm))
            have HQ6 := aM (Kd.S_mono (Kd.S_set HQ5.out H65.out (by decide) 2 (.slice Am ml.length cm)) (fun k_ hk_ => hk_.2))
            clear HB5 HO5 HQ5 HD14 H25 H45 H65
            generalize (w10.setCell ⟨g6, 2, none⟩ (.slice Am ml.length cm)) = wE at H26 H46 H66 HB6 HO6 HQ6 ⊢
            go_wp2
            go_roundg (l0_2.length - (i + 1))
            case measure => omega
            case rel => exact ⟨i + 1, ml, mg, Am, An, cm, cn, rfl, by go_num, by omega, Nat.le_refl _, ⟨by rw [NML.out, NMG.out]; exact HH2.out⟩, H26, H46, H66, HO6, HQ6, HB6⟩
          · rw [if_neg hO] at H; cases H
        · have H := HH.out
          rw [if_neg hdl] at H
          have HH2 := aM H
          clear H HH
          have c1 : decide ((0 : Int) < (dl.length : Int)) = false := decide_eq_false (by omega)
          have c2 : decide (0 < dl.length) = false := decide_eq_false hdl
          go_wp2
          go_roundg (l0_2.length - (i + 1))
          case measure => omega
          case rel => exact ⟨i + 1, out, mg, Ao, An, co, cn, rfl, by go_num, by omega, Nat.le_refl _, ⟨by rw [NMG.out]; exact HH2.out⟩, H24, H44, H64, ⟨Kd.S_mono HO4.out (fun k_ h_ => h_.2)⟩, HQ4, HB4⟩
      · rw [if_neg hN] at H; cases H
    · have hltb : decide ((i : Int) < (l0_2.length : Int)) = false := decide_eq_false (by omega)
      have H := HG.out
      rw [List.drop_eq_nil_of_le (by omega)] at H
      simp only [spec_SweepIn2.go, Option.some.injEq, Prod.mk.injEq] at H
      obtain ⟨rfl, rfl⟩ := H
      have z40 := cz3_0 H4
      have z41 := cz3_1 H4
      have z42 := cz3_2 H4
      have y40 := blk_frozen H4.out 0
      have y41 := blk_frozen H4.out 1
      have y42 := blk_frozen H4.out 2
      have z60 := cz3_0 H6
      have z61 := cz3_1 H6
      have z62 := cz3_2 H6
      have y61 := blk_frozen H6.out 1
      have n46 := N46.out
      have n64 : g6 ≠ g4 := fun h_ => n46 h_.symm
      by_cases hgl : 0 < gone.length
      · have hR := HR2.out
        rw [if_pos hgl] at hR
        subst hR
        have c1 : decide ((0 : Int) < (gone.length : Int)) = true := decide_eq_true (by omega)
        have c2 : decide (0 < gone.length) = true := decide_eq_true hgl
        go_wp2
        refine bodyPost_ret (results_ct rfl _ _ g4 55 #[.int .i64 a0_0, .int .i64 (wrap64 (a0_1 + 1)), .slice Ao out.length co] (0, 0) _ rfl (set3_blk ((Below.heap_setCell _ ⟨g6, 1, none⟩ _ g4 n46).trans H4.out)) Try.underlying55 rfl (by kernel_rfl)) rfl ?_
        have hb4 := (Below.heap_setCell wr ⟨g6, 1, none⟩ (.int .i64 (wrap64 (a0_1 + 1))) g4 n46).trans H4.out
        have s3 := fun {α : Type} {d : Kd α} {e : Nat} {ok : Nat → Prop} {v : Value} {xs : List α} (h : Kd.S d e wr w.heap.size ok v xs) (ht : ∀ q, q ∈ e :: d.E → q ≠ 55) => Kd.S_set (Kd.S_set (Kd.S_set (Kd.S_set h H6.out ht 1 (.int .i64 (wrap64 (a0_1 + 1)))) hb4 ht 0 (.int .i64 a0_0)) (blk_put hb4 0 (.int .i64 a0_0) rfl) ht 1 (.int .i64 (wrap64 (a0_1 + 1)))) (blk_put (blk_put hb4 0 (.int .i64 a0_0) rfl) 1 (.int .i64 (wrap64 (a0_1 + 1))) rfl) ht 2 (.slice Ao out.length co)
        exact ⟨_, _, rfl, Kd.S_mono (s3 HO.out (by decide)) (fun _ _ => trivial), Kd.S_mono (s3 HQ.out (by decide)) (fun _ _ => trivial), below_set (below_set (below_set (below_set HB.out HG6.out) HG4.out) HG4.out) HG4.out⟩
      · have hR := HR2.out
        rw [if_neg hgl] at hR
        subst hR
        have c1 : decide ((0 : Int) < (gone.length : Int)) = false := decide_eq_false (by omega)
        have c2 : decide (0 < gone.length) = false := decide_eq_false hgl
        go_wp2
        refine bodyPost_ret (results_ct rfl _ _ g4 55 #[.int .i64 a0_0, .int .i64 a0_1, .slice Ao out.length co] (0, 0) _ rfl (set3_blk H4.out) Try.underlying55 rfl (by kernel_rfl)) rfl ?_
        have s3 := fun {α : Type} {d : Kd α} {e : Nat} {ok : Nat → Prop} {v : Value} {xs : List α} (h : Kd.S d e wr w.heap.size ok v xs) (ht : ∀ q, q ∈ e :: d.E → q ≠ 55) => Kd.S_set (Kd.S_set (Kd.S_set h H4.out ht 0 (.int .i64 a0_0)) (blk_put H4.out 0 (.int .i64 a0_0) rfl) ht 1 (.int .i64 a0_1)) (blk_put (blk_put H4.out 0 (.int .i64 a0_0) rfl) 1 (.int .i64 a0_1) rfl) ht 2 (.slice Ao out.length co)
        exact ⟨_, _, rfl, Kd.S_mono (s3 HO.out (by decide)) (fun _ _ => trivial), Kd.S_mono (s3 HQ.out (by decide)) (fun _ _ => trivial), below_set (below_set (below_set HB.out HG4.out) HG4.out) HG4.out⟩
def laws_FnExactSweepIn.T10 : Bool × List (List Nat × List Nat) := (true, [([], []), ([], []), ([1], [1]), ([0, 2, 2], [0, 2]), ([3], [3])])
def laws_FnExactSweepIn.B10 : List Nat := [0, 0, 2, 7, 15]
theorem laws_FnExactSweepIn.tab10 : rtab .any (opsOf Try.f7 10) = laws_FnExactSweepIn.T10 := by kernel_rfl
theorem laws_FnExactSweepIn.bits10 : waitsOk laws_FnExactSweepIn.T10.2 laws_FnExactSweepIn.B10 = true := by kernel_rfl
set_option maxHeartbeats 16000000 in
set_option maxRecDepth 100000 in
theorem laws_FnExactSweepIn.early1 (k : Nat) (a0_0 : Int) (a0_1 : Int) (A0_2 : Option Addr) (c0_2 : Nat) (l0_2 : List S35) (a1 : Int) (w : World) (hr0_2 : Kd.C k35 w A0_2 l0_2.length l0_2) (hc0_2 : l0_2.length ≤ c0_2) (q1 : Int)
  (F1 : Aside0 (laws_szPart.f k a0_0 a0_1 l0_2 1048576 = some q1))
  (K0 : Aside0 (decide (q1 < 0) = true)) :
  Calls Try.prog 7 #[.agg #[.int .i64 a0_0, .int .i64 a0_1, .slice A0_2 l0_2.length c0_2], .int .i64 a1] w fun e w' => e = .returned (.bool true) ∧ Below w.heap.size w w' := by
 have Hc0_2 := aM hc0_2
 have HR0_2 := aM hr0_2
 have G := (Gs.below w).add (Gs.top (Nat.le_refl w.heap.size))
 clear hc0_2 hr0_2
 go_enter Try.func7, Try.ntmps7
 go_upto_region 1 with (first | ((with_reducible refine gate_dst (N := 2) rfl ?_); refine box_event ?hg (N := 2) ?hd (cs := #[.int .i64 a0_0, .int .i64 a0_1, .slice A0_2 l0_2.length c0_2]) (t := 50) ?hr ?_; (case hd => rfl); (case hg => rfl); (case hr => first | (go_simp; done) | (go_simp; rfl)); intro g2 hg w2 hbox hb; have Hg2 := aM (show w.heap.size ≤ g2 from hg ▸ G.at_.2); have G1 := (((G.go hb).add (Gs.ofBox3 hbox)).add (Gs.top (Nat.succ_le_of_lt (blk_lt hbox)))); clear hb hbox hg G; have G := G1; clear G1))
 go_upto_region 2 with (fail)
 obtain ⟨zg2_0, zg2_1, zg2_2⟩ := G.at_.1.2
 go_upto_region 3 with (first | ((with_reducible refine gate_callee (f := 29) rfl ?_); refine goesL_ (some 18) rfl rfl Try.func29 (by kernel_rfl) rfl #[.agg #[.int .i64 a0_0, .int .i64 a0_1, .slice A0_2 l0_2.length c0_2], .int .i64 1048576] rfl (by (try simp only [List.map_toArray, List.map_cons, List.map_nil]); first | done | rfl) ?_; refine (laws_szPart.calls k a0_0 a0_1 _ _ l0_2 1048576 q1 _ (Kd.C_below HR0_2.out G.at_.1.1.1) Hc0_2.out F1.out).mono ?_; rintro e w1 ⟨rfl, hb⟩; refine ⟨_, rfl, ?_⟩; have G1 := (G.go hb); clear G hb; have G := G1; clear G1))
 (try clear zg2_0)
 (try clear zg2_1)
 (try clear zg2_2)
 have hk0_ := K0.out
 try go_wp2
 try go_wp2
 go_ret
 exact ⟨rfl, G.at_.1.1.1⟩
set_option maxHeartbeats 16000000 in
set_option maxRecDepth 100000 in
theorem laws_FnExactSweepIn.way (k : Nat) (a0_0 : Int) (a0_1 : Int) (A0_2 : Option Addr) (c0_2 : Nat) (l0_2 : List S35) (a1 : Int) (w : World) (hr0_2 : Kd.C k35 w A0_2 l0_2.length l0_2) (hc0_2 : l0_2.length ≤ c0_2) (q1 : Int) (ph : Int) (pv : Int) (pl : List (S39)) (sh : Int) (sv : Int) (so : List (S39)) (sg : List (S26)) (e1 : Int) (pm : List (S39)) (e2 : Int) (m2 : List (S39)) (e3 : Int) (m3 : List (S26))
  (F1 : Aside0 (laws_szPart.f k a0_0 a0_1 l0_2 1048576 = some q1))
  (F2 : Aside0 (laws_toPart.f k a0_0 a0_1 l0_2 = some (ph, pv, pl)))
  (F3 : Aside0 (spec_SweepIn2.f k ph pv pl a1 = some (sh, sv, so, sg)))
  (F4 : Aside0 (impl_SweepIn2.f k ph pv pl a1 = some (sh, sv, so, sg)))
  (F5 : Aside0 (laws_eqPart.f k sh sv so sh sv so = some true))
  (F6 : Aside0 (laws_eqAlarmS.f k sg sg = some true))
  (F7 : Aside0 (laws_eqPart.f k ph pv pl ph pv pl = some true))
  (F8 : Aside0 (laws_markPart.f k ph pv pl 1 = some (e1, pm)))
  (F9 : Aside0 (laws_markPart.f k sh sv so 1 = some (e2, m2)))
  (F10 : Aside0 (laws_markAlarmS.f k sg e2 = some (e3, m3)))
  (F11 : Aside0 (laws_heldPart.f k sh sv m2 1 = some e2))
  (F12 : Aside0 (laws_heldAlarmS.f k m3 e2 = some e3))
  (K0 : Aside0 (decide (q1 < 0) = false))
  (K1 : Aside0 (decide (e1 < 0) = false))
  (K2 : Aside0 (decide (e2 < 0) = false))
  (K3 : Aside0 (decide (e3 < 0) = false))
  (K4 : Aside0 ((e3 != e3) = false)) :
  Calls Try.prog 7 #[.agg #[.int .i64 a0_0, .int .i64 a0_1, .slice A0_2 l0_2.length c0_2], .int .i64 a1] w fun e w' => e = .returned (.bool true) ∧ Below w.heap.size w w' := by
 have Hc0_2 := aM hc0_2
 have HR0_2 := aM hr0_2
 have G := (Gs.below w).add (Gs.top (Nat.le_refl w.heap.size))
 clear hc0_2 hr0_2
 go_enter Try.func7, Try.ntmps7
 go_upto_region 1 with (first | ((with_reducible refine gate_dst (N := 2) rfl ?_); refine box_event ?hg (N := 2) ?hd (cs := #[.int .i64 a0_0, .int .i64 a0_1, .slice A0_2 l0_2.length c0_2]) (t := 50) ?hr ?_; (case hd => rfl); (case hg => rfl); (case hr => first | (go_simp; done) | (go_simp; rfl)); intro g2 hg w2 hbox hb; have Hg2 := aM (show w.heap.size ≤ g2 from hg ▸ G.at_.2); have G1 := (((G.go hb).add (Gs.ofBox3 hbox)).add (Gs.top (Nat.succ_le_of_lt (blk_lt hbox)))); clear hb hbox hg G; have G := G1; clear G1))
 go_upto_region 2 with (fail)
 obtain ⟨zg2_0, zg2_1, zg2_2⟩ := G.at_.1.2
 go_upto_region 3 with (first | ((with_reducible refine gate_callee (f := 29) rfl ?_); refine goesL_ (some 18) rfl rfl Try.func29 (by kernel_rfl) rfl #[.agg #[.int .i64 a0_0, .int .i64 a0_1, .slice A0_2 l0_2.length c0_2], .int .i64 1048576] rfl (by (try simp only [List.map_toArray, List.map_cons, List.map_nil]); first | done | rfl) ?_; refine (laws_szPart.calls k a0_0 a0_1 _ _ l0_2 1048576 q1 _ (Kd.C_below HR0_2.out G.at_.1.1.1) Hc0_2.out F1.out).mono ?_; rintro e w1 ⟨rfl, hb⟩; refine ⟨_, rfl, ?_⟩; have G1 := (G.go hb); clear G hb; have G := G1; clear G1))
 (try clear zg2_0)
 (try clear zg2_1)
 (try clear zg2_2)
 have hk0_ := K0.out
 go_upto_region 5 with (fail)
 obtain ⟨zg2_0, zg2_1, zg2_2⟩ := G.at_.1.2
 go_upto_region 6 with (first | ((with_reducible refine gate_callee (f := 31) rfl ?_); refine goesL_ (some 23) rfl rfl Try.func31 (by kernel_rfl) rfl #[.agg #[.int .i64 a0_0, .int .i64 a0_1, .slice A0_2 l0_2.length c0_2]] rfl (by (try simp only [List.map_toArray, List.map_cons, List.map_nil]); first | done | rfl) ?_; refine (laws_toPart2.calls k a0_0 a0_1 _ _ l0_2 ph pv pl _ (Kd.C_below HR0_2.out G.at_.1.1.1) Hc0_2.out F2.out).mono ?_; rintro e w1 ⟨v23_0, rfl, ho23_0, hb⟩; refine ⟨_, rfl, ?_⟩; obtain ⟨A23_0, c23_0, rfl, _, _⟩ := Kd.S_reads ho23_0; obtain ⟨loA23_0, hiA23_0, hOA23_0, hTA23_0, hSA23_0⟩ := newS G.at_.2 G.at_.1.1.1 hb ho23_0; have OA23_0 := aM hOA23_0; clear hOA23_0 ho23_0; have G1 := (((G.go hb).add (Gs.ownS hSA23_0)).add (Gs.top hTA23_0)); clear G hb hSA23_0 hTA23_0; have G := G1; clear G1) | ((with_reducible refine gate_callee (f := 41) rfl ?_); refine goesL_ (some 25) rfl rfl Try.func41 (by kernel_rfl) rfl #[.agg #[.int .i64 ph, .int .i64 pv, .slice A23_0 pl.length c23_0], .int .i64 a1] rfl (by (try simp only [List.map_toArray, List.map_cons, List.map_nil]); first | done | rfl) ?_; refine (spec_SweepIn2.calls k ph pv _ _ pl a1 sh sv so sg _ (Kd.S_reads' G.at_.1.2).2.2 ((Kd.S_reads' G.at_.1.2).1 ▸ (Kd.S_reads' G.at_.1.2).2.1) F3.out).mono ?_; rintro e w1 ⟨v25_0, v25_1, rfl, ho25_0, ho25_1, hb⟩; refine ⟨_, rfl, ?_⟩; obtain ⟨A25_0, c25_0, rfl, _, _⟩ := Kd.S_reads ho25_0; obtain ⟨A25_1, c25_1, rfl, _, _⟩ := Kd.S_reads ho25_1; obtain ⟨loA25_0, hiA25_0, hOA25_0, hTA25_0, hSA25_0, hSA25_1⟩ := new2 G.at_.2 G.at_.1.1.1.1.1 hb ho25_0 ho25_1; have OA25_0 := aM hOA25_0; clear hOA25_0 ho25_0 ho25_1; have G1 := ((((G.go hb).add (Gs.ownS hSA25_0)).add (Gs.ownS hSA25_1)).add (Gs.top hTA25_0)); clear G hb hSA25_0 hSA25_1 hTA25_0; have G := G1; clear G1) | ((with_reducible refine gate_dst (N := 6) rfl ?_); refine box_event ?hg (N := 6) ?hd (cs := #[.int .i64 0, .int .i64 0, .slice none 0 0]) (t := 55) ?hr ?_; (case hd => rfl); (case hg => rfl); (case hr => first | (go_simp; done) | (go_simp; rfl)); intro g6 hg w2 hbox hb; have Hg6 := aM (show hiA25_0 ≤ g6 from hg ▸ G.at_.2); have HB_g6 := aM hb; have HE_g6 := aM hg; have BK_g6 := aM hbox; have zg6_0 := cz3_0 ⟨hbox⟩; have yg6_0 := blk_frozen hbox 0; have zg6_1 := cz3_1 ⟨hbox⟩; have yg6_1 := blk_frozen hbox 1; have zg6_2 := cz3_2 ⟨hbox⟩; have yg6_2 := blk_frozen hbox 2; clear hb hbox hg))
 (try clear zg2_0)
 (try clear zg2_1)
 (try clear zg2_2)
 (try clear zg6_0)
 (try clear yg6_0)
 (try clear zg6_1)
 (try clear yg6_1)
 (try clear zg6_2)
 (try clear yg6_2)
 have G1 := ((Gs.put3 (.int .i64 sh) (.int .i64 sv) (.slice A25_0 so.length c25_0) G HB_g6 HE_g6 BK_g6)).add (Gs.top (Nat.succ_le_of_lt (blk_lt (set3_blk BK_g6.out))))
 clear G; have G := G1; clear G1
 generalize (((w2.setCell ⟨g6, 0, none⟩ (.int .i64 sh)).setCell ⟨g6, 1, none⟩ (.int .i64 sv)).setCell ⟨g6, 2, none⟩ (.slice A25_0 so.length c25_0)) = w3 at G ⊢
 clear HB_g6 HE_g6 BK_g6
 obtain ⟨zg2_0, zg2_1, zg2_2⟩ := G.at_.1.1.1.1.1.1.1.1.2
 go_upto_region 7 with (first | ((with_reducible refine gate_callee (f := 31) rfl ?_); refine goesL_ (some 29) rfl rfl Try.func31 (by kernel_rfl) rfl #[.agg #[.int .i64 a0_0, .int .i64 a0_1, .slice A0_2 l0_2.length c0_2]] rfl (by (try simp only [List.map_toArray, List.map_cons, List.map_nil]); first | done | rfl) ?_; refine (laws_toPart2.calls k a0_0 a0_1 _ _ l0_2 ph pv pl _ (Kd.C_below HR0_2.out G.at_.1.1.1.1.1.1.1.1.1.1) Hc0_2.out F2.out).mono ?_; rintro e w1 ⟨v29_0, rfl, ho29_0, hb⟩; refine ⟨_, rfl, ?_⟩; obtain ⟨A29_0, c29_0, rfl, _, _⟩ := Kd.S_reads ho29_0; obtain ⟨loA29_0, hiA29_0, hOA29_0, hTA29_0, hSA29_0⟩ := newS G.at_.2 G.at_.1.1.1.1.1.1.1.1.1.1 hb ho29_0; have OA29_0 := aM hOA29_0; clear hOA29_0 ho29_0; have G1 := (((G.go hb).add (Gs.ownS hSA29_0)).add (Gs.top hTA29_0)); clear G hb hSA29_0 hTA29_0; have G := G1; clear G1) | ((with_reducible refine gate_dst (N := 8) rfl ?_); refine box_event ?hg (N := 8) ?hd (cs := #[.int .i64 0, .int .i64 0, .slice none 0 0]) (t := 55) ?hr ?_; (case hd => rfl); (case hg => rfl); (case hr => first | (go_simp; done) | (go_simp; rfl)); intro g8 hg w2 hbox hb; have Hg8 := aM (show hiA29_0 ≤ g8 from hg ▸ G.at_.2); have HB_g8 := aM hb; have HE_g8 := aM hg; have BK_g8 := aM hbox; have zg8_0 := cz3_0 ⟨hbox⟩; have yg8_0 := blk_frozen hbox 0; have zg8_1 := cz3_1 ⟨hbox⟩; have yg8_1 := blk_frozen hbox 1; have zg8_2 := cz3_2 ⟨hbox⟩; have yg8_2 := blk_frozen hbox 2; clear hb hbox hg))
 (try clear zg2_0)
 (try clear zg2_1)
 (try clear zg2_2)
 (try clear zg8_0)
 (try clear yg8_0)
 (try clear zg8_1)
 (try clear yg8_1)
 (try clear zg8_2)
 (try clear yg8_2)
 have G1 := ((Gs.put3 (.int .i64 ph) (.int .i64 pv) (.slice A29_0 pl.length c29_0) G HB_g8 HE_g8 BK_g8)).add (Gs.top (Nat.succ_le_of_lt (blk_lt (set3_blk BK_g8.out))))
 clear G; have G := G1; clear G1
 generalize (((w2.setCell ⟨g8, 0, none⟩ (.int .i64 ph)).setCell ⟨g8, 1, none⟩ (.int .i64 pv)).setCell ⟨g8, 2, none⟩ (.slice A29_0 pl.length c29_0)) = w3 at G ⊢
 clear HB_g8 HE_g8 BK_g8
 obtain ⟨zg8_0, zg8_1, zg8_2⟩ := G.at_.1.2
 go_upto_region 8 with (first | ((with_reducible refine gate_callee (f := 42) rfl ?_); refine goesL_ (some 33) rfl rfl Try.func42 (by kernel_rfl) rfl #[.agg #[.int .i64 ph, .int .i64 pv, .slice A29_0 pl.length c29_0], .int .i64 a1] rfl (by (try simp only [List.map_toArray, List.map_cons, List.map_nil]); first | done | rfl) ?_; refine (impl_SweepIn2.calls k ph pv _ _ pl a1 sh sv so sg _ (Kd.S_reads' G.at_.1.1.1.2).2.2 ((Kd.S_reads' G.at_.1.1.1.2).1 ▸ (Kd.S_reads' G.at_.1.1.1.2).2.1) F4.out).mono ?_; rintro e w1 ⟨v33_0, v33_1, Pd33, rfl, ho33_0, ho33_1, hb⟩; refine ⟨_, rfl, ?_⟩; obtain ⟨A33_0, c33_0, rfl, _, _⟩ := Kd.S_reads ho33_0; obtain ⟨A33_1, c33_1, rfl, _, _⟩ := Kd.S_reads ho33_1; obtain ⟨loA33_0, hiA33_0, hOA33_0, hTA33_0, hSA33_0, hSA33_1⟩ := new2P G.at_.2 G.at_.1.1.1.1.1.1.1.1.1.1.1.1.1.1 hb ho33_0 ho33_1; have OA33_0 := aM hOA33_0; clear hOA33_0 ho33_0 ho33_1; have G1 := ((((G.go hb).add (Gs.ownS hSA33_0)).add (Gs.ownS hSA33_1)).add (Gs.top hTA33_0)); clear G hb hSA33_0 hSA33_1 hTA33_0; have G := G1; clear G1) | ((with_reducible refine gate_dst (N := 9) rfl ?_); refine box_event ?hg (N := 9) ?hd (cs := #[.int .i64 0, .int .i64 0, .slice none 0 0]) (t := 55) ?hr ?_; (case hd => rfl); (case hg => rfl); (case hr => first | (go_simp; done) | (go_simp; rfl)); intro g9 hg w2 hbox hb; have Hg9 := aM (show hiA33_0 ≤ g9 from hg ▸ G.at_.2); have HB_g9 := aM hb; have HE_g9 := aM hg; have BK_g9 := aM hbox; have zg9_0 := cz3_0 ⟨hbox⟩; have yg9_0 := blk_frozen hbox 0; have zg9_1 := cz3_1 ⟨hbox⟩; have yg9_1 := blk_frozen hbox 1; have zg9_2 := cz3_2 ⟨hbox⟩; have yg9_2 := blk_frozen hbox 2; clear hb hbox hg))
 (try clear zg8_0)
 (try clear zg8_1)
 (try clear zg8_2)
 (try clear zg9_0)
 (try clear yg9_0)
 (try clear zg9_1)
 (try clear yg9_1)
 (try clear zg9_2)
 (try clear yg9_2)
 have G1 := ((Gs.put3 (.int .i64 sh) (.int .i64 sv) (.slice A33_0 so.length c33_0) G HB_g9 HE_g9 BK_g9)).add (Gs.top (Nat.succ_le_of_lt (blk_lt (set3_blk BK_g9.out))))
 clear G; have G := G1; clear G1
 generalize (((w2.setCell ⟨g9, 0, none⟩ (.int .i64 sh)).setCell ⟨g9, 1, none⟩ (.int .i64 sv)).setCell ⟨g9, 2, none⟩ (.slice A33_0 so.length c33_0)) = w3 at G ⊢
 clear HB_g9 HE_g9 BK_g9
 obtain ⟨zg9_0, zg9_1, zg9_2⟩ := G.at_.1.2
 obtain ⟨zg6_0, zg6_1, zg6_2⟩ := G.at_.1.1.1.1.1.1.1.1.1.1.2
 go_upto_region 10 with (first | ((with_reducible refine gate_callee (f := 33) rfl ?_); refine goesL_ (some 38) rfl rfl Try.func33 (by kernel_rfl) rfl #[.agg #[.int .i64 sh, .int .i64 sv, .slice A33_0 so.length c33_0], .agg #[.int .i64 sh, .int .i64 sv, .slice A25_0 so.length c25_0]] rfl (by (try simp only [List.map_toArray, List.map_cons, List.map_nil]); first | done | rfl) ?_; refine (laws_eqPart.calls k sh sv _ _ so sh sv _ _ so true _ (Kd.S_reads' G.at_.1.1.1.1.2).2.2 ((Kd.S_reads' G.at_.1.1.1.1.2).1 ▸ (Kd.S_reads' G.at_.1.1.1.1.2).2.1) (Kd.S_reads' G.at_.1.1.1.1.1.1.1.1.1.1.1.1.1.2).2.2 ((Kd.S_reads' G.at_.1.1.1.1.1.1.1.1.1.1.1.1.1.2).1 ▸ (Kd.S_reads' G.at_.1.1.1.1.1.1.1.1.1.1.1.1.1.2).2.1) F5.out).mono ?_; rintro e w1 ⟨rfl, hb⟩; refine ⟨_, rfl, ?_⟩; have G1 := (G.go hb); clear G hb; have G := G1; clear G1) | ((with_reducible refine gate_callee (f := 24) rfl ?_); refine gate_guard (by rfl) ?_; refine goesL_ (some 43) rfl rfl Try.func24 (by kernel_rfl) rfl #[.slice A33_1 sg.length c33_1, .slice A25_1 sg.length c25_1] rfl (by (try simp only [List.map_toArray, List.map_cons, List.map_nil]); first | done | rfl) ?_; refine (laws_eqAlarmS.calls k _ _ sg _ _ sg true _ (Kd.S_reads' G.at_.1.1.1.2).2.2 ((Kd.S_reads' G.at_.1.1.1.2).1 ▸ (Kd.S_reads' G.at_.1.1.1.2).2.1) (Kd.S_reads' G.at_.1.1.1.1.1.1.1.1.1.1.1.1.2).2.2 ((Kd.S_reads' G.at_.1.1.1.1.1.1.1.1.1.1.1.1.2).1 ▸ (Kd.S_reads' G.at_.1.1.1.1.1.1.1.1.1.1.1.1.2).2.1) F6.out).mono ?_; rintro e w1 ⟨rfl, hb⟩; refine ⟨_, rfl, ?_⟩; have G1 := (G.go hb); clear G hb; have G := G1; clear G1))
 (try clear zg9_0)
 (try clear zg9_1)
 (try clear zg9_2)
 (try clear zg6_0)
 (try clear zg6_1)
 (try clear zg6_2)
 refine Gs.hide G (fun Ψ GP hP hQ => ?_)
 clear G
 refine regD [] GP (by kernel_rfl) rfl laws_FnExactSweepIn.tab10 laws_FnExactSweepIn.bits10 (fun wr hbr GV HT_ HW_ => ?_)
 clear GP hbr
 have HB := aM (Below.refl wr.heap.size wr)
 refine (tk 0 (some 46) 1 ?_ ?_ HT_ HW_ rfl rfl (by kernel_rfl) (fun _ _ _ h => h) (GV.go HB.out).at_ ?_ ?_ ?_ (tk 1 (some 47) 3 ?_ ?_ HT_ HW_ rfl rfl (by kernel_rfl) (fun _ _ _ h => h) (GV.go HB.out).at_ ?_ ?_ ?_ ?_))
 all_goals first | (rintro w' hp_; obtain ⟨⟨⟨⟨⟨⟨⟨⟨⟨⟨⟨⟨⟨⟨⟨⟨⟨⟨⟨-, -⟩, ⟨s0, s1, s2⟩⟩, -⟩, -⟩, -⟩, -⟩, -⟩, -⟩, ⟨s3, s4, s5⟩⟩, -⟩, -⟩, -⟩, ⟨s6, s7, s8⟩⟩, -⟩, -⟩, -⟩, -⟩, ⟨s9, s10, s11⟩⟩, -⟩ := hP _ hp_; go_simp; with_reducible rfl) | (intro w'; go_simp; with_reducible rfl) | (simp only [Act.put, List.setIfInBounds_toArray, List.set_cons_zero, List.set_cons_succ, i64_w, i32_w]; rfl) | rfl | skip
 refine rcD 2 48 7 HT_ rfl rfl (by decide) (by kernel_rfl) Try.func31 (by kernel_rfl) rfl rfl #[.agg #[.int .i64 a0_0, .int .i64 a0_1, .slice A0_2 l0_2.length c0_2]] (by rfl) (by (try simp only [List.map_toArray, List.map_cons, List.map_nil]); first | done | rfl) ?_
 refine (laws_toPart2.calls k a0_0 a0_1 _ _ l0_2 ph pv pl _ (Kd.C_below HR0_2.out (hP _ (GV.go HB.out).at_).1.1.1.1.1.1.1.1.1.1.1.1.1.1.1.1.1.1.1) Hc0_2.out F2.out).mono ?_
 rintro e w1 ⟨v48_0, rfl, ho48_0, hb⟩
 obtain ⟨A48_0, c48_0, rfl, _, _⟩ := Kd.S_reads ho48_0
 have hTop := (hP _ (GV.go HB.out).at_).2
 obtain ⟨loA48_0, hiA48_0, hOA48_0, hTA48_0, hSA48_0⟩ := newS (Nat.le_refl _) (hP _ (GV.go HB.out).at_).1.1.1.1.1.1.1.1.1.1.1.1.1.1.1.1.1.1.1 hb ho48_0
 have XA48_0 := Gs.ownS hSA48_0
 have OA48_0 := aM (And.intro (Nat.le_trans hTop hOA48_0.1) hOA48_0.2)
 (try clear HTI)
 have HTI := aM hTA48_0
 clear hTop
 have HB1 := aM (below_step HB.out hb); clear HB hb hOA48_0 hTA48_0 hSA48_0 ho48_0; have HB := HB1; clear HB1
 refine ⟨_, rfl, (GV.go HB.out).at_, ?_⟩; intro a' ha; simp only [Act.put, List.setIfInBounds_toArray, List.set_cons_zero, List.set_cons_succ, i64_w, i32_w] at ha; subst ha
 refine rcD 3 49 15 HT_ rfl rfl (by decide) (by kernel_rfl) Try.func33 (by kernel_rfl) rfl rfl #[.agg #[.int .i64 ph, .int .i64 pv, .slice A29_0 pl.length c29_0], .agg #[.int .i64 ph, .int .i64 pv, .slice A48_0 pl.length c48_0]] (by rfl) (by (try simp only [List.map_toArray, List.map_cons, List.map_nil]); first | done | rfl) ?_
 refine (laws_eqPart.calls k ph pv _ _ pl ph pv _ _ pl true _ (Kd.S_reads' (hP _ (GV.go HB.out).at_).1.1.1.1.1.1.1.1.2).2.2 ((Kd.S_reads' (hP _ (GV.go HB.out).at_).1.1.1.1.1.1.1.1.2).1 ▸ (Kd.S_reads' (hP _ (GV.go HB.out).at_).1.1.1.1.1.1.1.1.2).2.1) (Kd.S_reads' XA48_0.at_).2.2 ((Kd.S_reads' XA48_0.at_).1 ▸ (Kd.S_reads' XA48_0.at_).2.1) F7.out).mono ?_
 rintro e w1 ⟨rfl, hb⟩
 replace XA48_0 := XA48_0.go hb
 have HB1 := aM (below_step HB.out hb); clear HB hb; have HB := HB1; clear HB1
 refine ⟨_, rfl, (GV.go HB.out).at_, ?_⟩; intro a' ha; simp only [Act.put, List.setIfInBounds_toArray, List.set_cons_zero, List.set_cons_succ, i64_w, i32_w] at ha; subst ha
 refine (pu 4 (some 50) 31 ?_ ?_ HT_ rfl rfl (by kernel_rfl) (fun _ _ _ h => h) ?_ ?_ ?_ ?_)
 all_goals first | (rintro w' hp_; obtain ⟨⟨⟨⟨⟨⟨⟨⟨⟨⟨⟨⟨⟨⟨⟨⟨⟨⟨⟨-, -⟩, ⟨s0, s1, s2⟩⟩, -⟩, -⟩, -⟩, -⟩, -⟩, -⟩, ⟨s3, s4, s5⟩⟩, -⟩, -⟩, -⟩, ⟨s6, s7, s8⟩⟩, -⟩, -⟩, -⟩, -⟩, ⟨s9, s10, s11⟩⟩, -⟩ := hP _ hp_; go_simp; with_reducible rfl) | (intro w'; go_simp; with_reducible rfl) | (simp only [Act.put, List.setIfInBounds_toArray, List.set_cons_zero, List.set_cons_succ, i64_w, i32_w]; rfl) | rfl | skip
 refine done_ (done_of HT_.out (by kernel_rfl)) ?_
 have G := hQ _ (GV.go HB.out)
 clear GV hP hQ HB
 go_upto_region 12 with (fail)
 go_upto_region 13 with (fail)
 obtain ⟨zg8_0, zg8_1, zg8_2⟩ := G.at_.1.1.1.1.1.1.2
 go_upto_region 14 with (first | ((with_reducible refine gate_callee (f := 34) rfl ?_); refine goesL_ (some 53) rfl rfl Try.func34 (by kernel_rfl) rfl #[.agg #[.int .i64 ph, .int .i64 pv, .slice A29_0 pl.length c29_0], .int .i64 1] rfl (by (try simp only [List.map_toArray, List.map_cons, List.map_nil]); first | done | rfl) ?_; refine (laws_markPart.calls k (Iv loA29_0 hiA29_0) ph pv _ _ pl 1 e1 pm w _ G.at_.1.1.1.1.1.1.1.1.1.1.1.1.1.1.1.1.1.1.1 G.at_.1.1.1.1.1.1.1.1.2 F8.out).mono ?_; rintro e w1 ⟨rfl, hy, hb, hk⟩; refine ⟨_, rfl, ?_⟩; have G1 := ((((((((((((((((((((Gs.bel hb).add (Gs.top (Nat.le_trans G.at_.1.1.1.1.1.1.1.1.1.1.1.1.1.1.1.1.1.1.2 hk.1))).add (Gs.ofB3 (box3_kept G.at_.1.1.1.1.1.1.1.1.1.1.1.1.1.1.1.1.1.2 hk (fun h1_ => (by unfold Iv at *; have o0_ := Hg2.out; have o1_ := OA23_0.out; have o2_ := OA25_0.out; have o3_ := Hg6.out; have o4_ := OA29_0.out; have o5_ := Hg8.out; have o6_ := OA33_0.out; have o7_ := Hg9.out; omega))))).add (Gs.top (Nat.le_trans G.at_.1.1.1.1.1.1.1.1.1.1.1.1.1.1.1.1.2 hk.1))).add (Gs.ownS (Kd.S_kept G.at_.1.1.1.1.1.1.1.1.1.1.1.1.1.1.1.2 hk (fun k_ h1_ h2_ => (by unfold Iv at *; have o0_ := Hg2.out; have o1_ := OA23_0.out; have o2_ := OA25_0.out; have o3_ := Hg6.out; have o4_ := OA29_0.out; have o5_ := Hg8.out; have o6_ := OA33_0.out; have o7_ := Hg9.out; omega))))).add (Gs.top (Nat.le_trans G.at_.1.1.1.1.1.1.1.1.1.1.1.1.1.1.2 hk.1))).add (Gs.ownS (Kd.S_kept G.at_.1.1.1.1.1.1.1.1.1.1.1.1.1.2 hk (fun k_ h1_ h2_ => (by unfold Iv at *; have o0_ := Hg2.out; have o1_ := OA23_0.out; have o2_ := OA25_0.out; have o3_ := Hg6.out; have o4_ := OA29_0.out; have o5_ := Hg8.out; have o6_ := OA33_0.out; have o7_ := Hg9.out; omega))))).add (Gs.ownS (Kd.S_kept G.at_.1.1.1.1.1.1.1.1.1.1.1.1.2 hk (fun k_ h1_ h2_ => (by unfold Iv at *; have o0_ := Hg2.out; have o1_ := OA23_0.out; have o2_ := OA25_0.out; have o3_ := Hg6.out; have o4_ := OA29_0.out; have o5_ := Hg8.out; have o6_ := OA33_0.out; have o7_ := Hg9.out; omega))))).add (Gs.top (Nat.le_trans G.at_.1.1.1.1.1.1.1.1.1.1.1.2 hk.1))).add (Gs.ofB3 (box3_kept G.at_.1.1.1.1.1.1.1.1.1.1.2 hk (fun h1_ => (by unfold Iv at *; have o0_ := Hg2.out; have o1_ := OA23_0.out; have o2_ := OA25_0.out; have o3_ := Hg6.out; have o4_ := OA29_0.out; have o5_ := Hg8.out; have o6_ := OA33_0.out; have o7_ := Hg9.out; omega))))).add (Gs.top (Nat.le_trans G.at_.1.1.1.1.1.1.1.1.1.2 hk.1))).add (Gs.ownS hy)).add (Gs.top (Nat.le_trans G.at_.1.1.1.1.1.1.1.2 hk.1))).add (Gs.ofB3 (box3_kept G.at_.1.1.1.1.1.1.2 hk (fun h1_ => (by unfold Iv at *; have o0_ := Hg2.out; have o1_ := OA23_0.out; have o2_ := OA25_0.out; have o3_ := Hg6.out; have o4_ := OA29_0.out; have o5_ := Hg8.out; have o6_ := OA33_0.out; have o7_ := Hg9.out; omega))))).add (Gs.top (Nat.le_trans G.at_.1.1.1.1.1.2 hk.1))).add (Gs.ownS (Kd.S_kept G.at_.1.1.1.1.2 hk (fun k_ h1_ h2_ => (by have h1_ := h1_.1; unfold Iv at *; have o0_ := Hg2.out; have o1_ := OA23_0.out; have o2_ := OA25_0.out; have o3_ := Hg6.out; have o4_ := OA29_0.out; have o5_ := Hg8.out; have o6_ := OA33_0.out; have o7_ := Hg9.out; omega))))).add (Gs.ownS (Kd.S_kept G.at_.1.1.1.2 hk (fun k_ h1_ h2_ => (by have h1_ := h1_.1; unfold Iv at *; have o0_ := Hg2.out; have o1_ := OA23_0.out; have o2_ := OA25_0.out; have o3_ := Hg6.out; have o4_ := OA29_0.out; have o5_ := Hg8.out; have o6_ := OA33_0.out; have o7_ := Hg9.out; omega))))).add (Gs.top (Nat.le_trans G.at_.1.1.2 hk.1))).add (Gs.ofB3 (box3_kept G.at_.1.2 hk (fun h1_ => (by unfold Iv at *; have o0_ := Hg2.out; have o1_ := OA23_0.out; have o2_ := OA25_0.out; have o3_ := Hg6.out; have o4_ := OA29_0.out; have o5_ := Hg8.out; have o6_ := OA33_0.out; have o7_ := Hg9.out; omega))))).add (Gs.top (Nat.le_trans G.at_.2 hk.1))); have HLA29_0 := aM (Kd.S_reads' hy).1.symm; clear G hy hb hk; have G := G1; clear G1))
 (try clear zg8_0)
 (try clear zg8_1)
 (try clear zg8_2)
 have hk1_ := K1.out
 obtain ⟨zg9_0, zg9_1, zg9_2⟩ := G.at_.1.2
 obtain ⟨zg6_0, zg6_1, zg6_2⟩ := G.at_.1.1.1.1.1.1.1.1.1.1.2
 go_upto_region 16 with (first | ((with_reducible refine gate_callee (f := 33) rfl ?_); refine gate_guard (by rfl) ?_; refine goesL_ (some 59) rfl rfl Try.func33 (by kernel_rfl) rfl #[.agg #[.int .i64 sh, .int .i64 sv, .slice A33_0 so.length c33_0], .agg #[.int .i64 sh, .int .i64 sv, .slice A25_0 so.length c25_0]] rfl (by (try simp only [List.map_toArray, List.map_cons, List.map_nil]); first | done | rfl) ?_; refine (laws_eqPart.calls k sh sv _ _ so sh sv _ _ so true _ (Kd.S_reads' G.at_.1.1.1.1.2).2.2 ((Kd.S_reads' G.at_.1.1.1.1.2).1 ▸ (Kd.S_reads' G.at_.1.1.1.1.2).2.1) (Kd.S_reads' G.at_.1.1.1.1.1.1.1.1.1.1.1.1.1.2).2.2 ((Kd.S_reads' G.at_.1.1.1.1.1.1.1.1.1.1.1.1.1.2).1 ▸ (Kd.S_reads' G.at_.1.1.1.1.1.1.1.1.1.1.1.1.1.2).2.1) F5.out).mono ?_; rintro e w1 ⟨rfl, hb⟩; refine ⟨_, rfl, ?_⟩; have G1 := (G.go hb); clear G hb; have G := G1; clear G1) | ((with_reducible refine gate_callee (f := 24) rfl ?_); refine gate_guard (by rfl) ?_; refine goesL_ (some 65) rfl rfl Try.func24 (by kernel_rfl) rfl #[.slice A33_1 sg.length c33_1, .slice A25_1 sg.length c25_1] rfl (by (try simp only [List.map_toArray, List.map_cons, List.map_nil]); first | done | rfl) ?_; refine (laws_eqAlarmS.calls k _ _ sg _ _ sg true _ (Kd.S_reads' G.at_.1.1.1.2).2.2 ((Kd.S_reads' G.at_.1.1.1.2).1 ▸ (Kd.S_reads' G.at_.1.1.1.2).2.1) (Kd.S_reads' G.at_.1.1.1.1.1.1.1.1.1.1.1.1.2).2.2 ((Kd.S_reads' G.at_.1.1.1.1.1.1.1.1.1.1.1.1.2).1 ▸ (Kd.S_reads' G.at_.1.1.1.1.1.1.1.1.1.1.1.1.2).2.1) F6.out).mono ?_; rintro e w1 ⟨rfl, hb⟩; refine ⟨_, rfl, ?_⟩; have G1 := (G.go hb); clear G hb; have G := G1; clear G1))
 (try clear zg9_0)
 (try clear zg9_1)
 (try clear zg9_2)
 (try clear zg6_0)
 (try clear zg6_1)
 (try clear zg6_2)
 go_upto_region 17 with (fail)
 obtain ⟨zg9_0, zg9_1, zg9_2⟩ := G.at_.1.2
 go_upto_region 18 with (first | ((with_reducible refine gate_callee (f := 34) rfl ?_); refine goesL_ (some 70) rfl rfl Try.func34 (by kernel_rfl) rfl #[.agg #[.int .i64 sh, .int .i64 sv, .slice A33_0 so.length c33_0], .int .i64 1] rfl (by (try simp only [List.map_toArray, List.map_cons, List.map_nil]); first | done | rfl) ?_; refine (laws_markPart.calls k (fun k_ => Iv loA33_0 hiA33_0 k_ ∧ Pd33 k_) sh sv _ _ so 1 e2 m2 w _ G.at_.1.1.1.1.1.1.1.1.1.1.1.1.1.1.1.1.1.1.1 G.at_.1.1.1.1.2 F9.out).mono ?_; rintro e w1 ⟨rfl, hy, hb, hk⟩; refine ⟨_, rfl, ?_⟩; have G1 := ((((((((((((((((((((Gs.bel hb).add (Gs.top (Nat.le_trans G.at_.1.1.1.1.1.1.1.1.1.1.1.1.1.1.1.1.1.1.2 hk.1))).add (Gs.ofB3 (box3_kept G.at_.1.1.1.1.1.1.1.1.1.1.1.1.1.1.1.1.1.2 hk (fun h1_ => (by have h1_ := h1_.1; unfold Iv at *; have o0_ := Hg2.out; have o1_ := OA23_0.out; have o2_ := OA25_0.out; have o3_ := Hg6.out; have o4_ := OA29_0.out; have o5_ := Hg8.out; have o6_ := OA33_0.out; have o7_ := Hg9.out; omega))))).add (Gs.top (Nat.le_trans G.at_.1.1.1.1.1.1.1.1.1.1.1.1.1.1.1.1.2 hk.1))).add (Gs.ownS (Kd.S_kept G.at_.1.1.1.1.1.1.1.1.1.1.1.1.1.1.1.2 hk (fun k_ h1_ h2_ => (by have h2_ := h2_.1; unfold Iv at *; have o0_ := Hg2.out; have o1_ := OA23_0.out; have o2_ := OA25_0.out; have o3_ := Hg6.out; have o4_ := OA29_0.out; have o5_ := Hg8.out; have o6_ := OA33_0.out; have o7_ := Hg9.out; omega))))).add (Gs.top (Nat.le_trans G.at_.1.1.1.1.1.1.1.1.1.1.1.1.1.1.2 hk.1))).add (Gs.ownS (Kd.S_kept G.at_.1.1.1.1.1.1.1.1.1.1.1.1.1.2 hk (fun k_ h1_ h2_ => (by have h2_ := h2_.1; unfold Iv at *; have o0_ := Hg2.out; have o1_ := OA23_0.out; have o2_ := OA25_0.out; have o3_ := Hg6.out; have o4_ := OA29_0.out; have o5_ := Hg8.out; have o6_ := OA33_0.out; have o7_ := Hg9.out; omega))))).add (Gs.ownS (Kd.S_kept G.at_.1.1.1.1.1.1.1.1.1.1.1.1.2 hk (fun k_ h1_ h2_ => (by have h2_ := h2_.1; unfold Iv at *; have o0_ := Hg2.out; have o1_ := OA23_0.out; have o2_ := OA25_0.out; have o3_ := Hg6.out; have o4_ := OA29_0.out; have o5_ := Hg8.out; have o6_ := OA33_0.out; have o7_ := Hg9.out; omega))))).add (Gs.top (Nat.le_trans G.at_.1.1.1.1.1.1.1.1.1.1.1.2 hk.1))).add (Gs.ofB3 (box3_kept G.at_.1.1.1.1.1.1.1.1.1.1.2 hk (fun h1_ => (by have h1_ := h1_.1; unfold Iv at *; have o0_ := Hg2.out; have o1_ := OA23_0.out; have o2_ := OA25_0.out; have o3_ := Hg6.out; have o4_ := OA29_0.out; have o5_ := Hg8.out; have o6_ := OA33_0.out; have o7_ := Hg9.out; omega))))).add (Gs.top (Nat.le_trans G.at_.1.1.1.1.1.1.1.1.1.2 hk.1))).add (Gs.ownS (Kd.S_kept G.at_.1.1.1.1.1.1.1.1.2 hk (fun k_ h1_ h2_ => (by have h2_ := h2_.1; unfold Iv at *; have o0_ := Hg2.out; have o1_ := OA23_0.out; have o2_ := OA25_0.out; have o3_ := Hg6.out; have o4_ := OA29_0.out; have o5_ := Hg8.out; have o6_ := OA33_0.out; have o7_ := Hg9.out; omega))))).add (Gs.top (Nat.le_trans G.at_.1.1.1.1.1.1.1.2 hk.1))).add (Gs.ofB3 (box3_kept G.at_.1.1.1.1.1.1.2 hk (fun h1_ => (by have h1_ := h1_.1; unfold Iv at *; have o0_ := Hg2.out; have o1_ := OA23_0.out; have o2_ := OA25_0.out; have o3_ := Hg6.out; have o4_ := OA29_0.out; have o5_ := Hg8.out; have o6_ := OA33_0.out; have o7_ := Hg9.out; omega))))).add (Gs.top (Nat.le_trans G.at_.1.1.1.1.1.2 hk.1))).add (Gs.ownS hy)).add (Gs.ownS (Kd.S_kept G.at_.1.1.1.2 hk (fun k_ h1_ h2_ => h1_.2 h2_.2)))).add (Gs.top (Nat.le_trans G.at_.1.1.2 hk.1))).add (Gs.ofB3 (box3_kept G.at_.1.2 hk (fun h1_ => (by have h1_ := h1_.1; unfold Iv at *; have o0_ := Hg2.out; have o1_ := OA23_0.out; have o2_ := OA25_0.out; have o3_ := Hg6.out; have o4_ := OA29_0.out; have o5_ := Hg8.out; have o6_ := OA33_0.out; have o7_ := Hg9.out; omega))))).add (Gs.top (Nat.le_trans G.at_.2 hk.1))); have HLA33_0 := aM (Kd.S_reads' hy).1.symm; clear G hy hb hk; have G := G1; clear G1))
 (try clear zg9_0)
 (try clear zg9_1)
 (try clear zg9_2)
 go_upto_region 19 with (first | ((with_reducible refine gate_callee (f := 26) rfl ?_); refine goesL_ (some 73) rfl rfl Try.func26 (by kernel_rfl) rfl #[.slice A33_1 sg.length c33_1, .int .i64 e2] rfl (by (try simp only [List.map_toArray, List.map_cons, List.map_nil]); first | done | rfl) ?_; refine (laws_markAlarmS.calls k (fun k_ => Iv loA33_0 hiA33_0 k_ ∧ ¬ Pd33 k_) _ _ sg e2 e3 m3 w _ G.at_.1.1.1.1.1.1.1.1.1.1.1.1.1.1.1.1.1.1.1 G.at_.1.1.1.2 F10.out).mono ?_; rintro e w1 ⟨rfl, hy, hb, hk⟩; refine ⟨_, rfl, ?_⟩; have G1 := ((((((((((((((((((((Gs.bel hb).add (Gs.top (Nat.le_trans G.at_.1.1.1.1.1.1.1.1.1.1.1.1.1.1.1.1.1.1.2 hk.1))).add (Gs.ofB3 (box3_kept G.at_.1.1.1.1.1.1.1.1.1.1.1.1.1.1.1.1.1.2 hk (fun h1_ => (by have h1_ := h1_.1; unfold Iv at *; have o0_ := Hg2.out; have o1_ := OA23_0.out; have o2_ := OA25_0.out; have o3_ := Hg6.out; have o4_ := OA29_0.out; have o5_ := Hg8.out; have o6_ := OA33_0.out; have o7_ := Hg9.out; omega))))).add (Gs.top (Nat.le_trans G.at_.1.1.1.1.1.1.1.1.1.1.1.1.1.1.1.1.2 hk.1))).add (Gs.ownS (Kd.S_kept G.at_.1.1.1.1.1.1.1.1.1.1.1.1.1.1.1.2 hk (fun k_ h1_ h2_ => (by have h2_ := h2_.1; unfold Iv at *; have o0_ := Hg2.out; have o1_ := OA23_0.out; have o2_ := OA25_0.out; have o3_ := Hg6.out; have o4_ := OA29_0.out; have o5_ := Hg8.out; have o6_ := OA33_0.out; have o7_ := Hg9.out; omega))))).add (Gs.top (Nat.le_trans G.at_.1.1.1.1.1.1.1.1.1.1.1.1.1.1.2 hk.1))).add (Gs.ownS (Kd.S_kept G.at_.1.1.1.1.1.1.1.1.1.1.1.1.1.2 hk (fun k_ h1_ h2_ => (by have h2_ := h2_.1; unfold Iv at *; have o0_ := Hg2.out; have o1_ := OA23_0.out; have o2_ := OA25_0.out; have o3_ := Hg6.out; have o4_ := OA29_0.out; have o5_ := Hg8.out; have o6_ := OA33_0.out; have o7_ := Hg9.out; omega))))).add (Gs.ownS (Kd.S_kept G.at_.1.1.1.1.1.1.1.1.1.1.1.1.2 hk (fun k_ h1_ h2_ => (by have h2_ := h2_.1; unfold Iv at *; have o0_ := Hg2.out; have o1_ := OA23_0.out; have o2_ := OA25_0.out; have o3_ := Hg6.out; have o4_ := OA29_0.out; have o5_ := Hg8.out; have o6_ := OA33_0.out; have o7_ := Hg9.out; omega))))).add (Gs.top (Nat.le_trans G.at_.1.1.1.1.1.1.1.1.1.1.1.2 hk.1))).add (Gs.ofB3 (box3_kept G.at_.1.1.1.1.1.1.1.1.1.1.2 hk (fun h1_ => (by have h1_ := h1_.1; unfold Iv at *; have o0_ := Hg2.out; have o1_ := OA23_0.out; have o2_ := OA25_0.out; have o3_ := Hg6.out; have o4_ := OA29_0.out; have o5_ := Hg8.out; have o6_ := OA33_0.out; have o7_ := Hg9.out; omega))))).add (Gs.top (Nat.le_trans G.at_.1.1.1.1.1.1.1.1.1.2 hk.1))).add (Gs.ownS (Kd.S_kept G.at_.1.1.1.1.1.1.1.1.2 hk (fun k_ h1_ h2_ => (by have h2_ := h2_.1; unfold Iv at *; have o0_ := Hg2.out; have o1_ := OA23_0.out; have o2_ := OA25_0.out; have o3_ := Hg6.out; have o4_ := OA29_0.out; have o5_ := Hg8.out; have o6_ := OA33_0.out; have o7_ := Hg9.out; omega))))).add (Gs.top (Nat.le_trans G.at_.1.1.1.1.1.1.1.2 hk.1))).add (Gs.ofB3 (box3_kept G.at_.1.1.1.1.1.1.2 hk (fun h1_ => (by have h1_ := h1_.1; unfold Iv at *; have o0_ := Hg2.out; have o1_ := OA23_0.out; have o2_ := OA25_0.out; have o3_ := Hg6.out; have o4_ := OA29_0.out; have o5_ := Hg8.out; have o6_ := OA33_0.out; have o7_ := Hg9.out; omega))))).add (Gs.top (Nat.le_trans G.at_.1.1.1.1.1.2 hk.1))).add (Gs.ownS (Kd.S_kept G.at_.1.1.1.1.2 hk (fun k_ h1_ h2_ => h2_.2 h1_.2)))).add (Gs.ownS hy)).add (Gs.top (Nat.le_trans G.at_.1.1.2 hk.1))).add (Gs.ofB3 (box3_kept G.at_.1.2 hk (fun h1_ => (by have h1_ := h1_.1; unfold Iv at *; have o0_ := Hg2.out; have o1_ := OA23_0.out; have o2_ := OA25_0.out; have o3_ := Hg6.out; have o4_ := OA29_0.out; have o5_ := Hg8.out; have o6_ := OA33_0.out; have o7_ := Hg9.out; omega))))).add (Gs.top (Nat.le_trans G.at_.2 hk.1))); have HLA33_1 := aM (Kd.S_reads' hy).1.symm; clear G hy hb hk; have G := G1; clear G1))
 go_upto_region 20 with (fail)
 obtain ⟨zg9_0, zg9_1, zg9_2⟩ := G.at_.1.2
 go_upto_region 21 with (first | ((with_reducible refine gate_callee (f := 43) rfl ?_); refine goesL_ (some 76) rfl rfl Try.func43 (by kernel_rfl) rfl #[.agg #[.int .i64 sh, .int .i64 sv, .slice A33_0 m2.length c33_0], .int .i64 1] rfl (by (try simp only [List.map_toArray, List.map_cons, List.map_nil]); first | done | rfl | (simp only [HLA29_0.out, HLA33_0.out, HLA33_1.out]; rfl)) ?_; refine (laws_heldPart.calls k sh sv _ _ m2 1 e2 _ (Kd.S_reads' G.at_.1.1.1.1.2).2.2 ((Kd.S_reads' G.at_.1.1.1.1.2).1 ▸ (Kd.S_reads' G.at_.1.1.1.1.2).2.1) F11.out).mono ?_; rintro e w1 ⟨rfl, hb⟩; refine ⟨_, rfl, ?_⟩; have G1 := (G.go hb); clear G hb; have G := G1; clear G1))
 (try clear zg9_0)
 (try clear zg9_1)
 (try clear zg9_2)
 have hk2_ := K2.out
 go_upto_region 23 with (fail)
 go_upto_region 24 with (first | ((with_reducible refine gate_callee (f := 28) rfl ?_); refine goesL_ (some 81) rfl rfl Try.func28 (by kernel_rfl) rfl #[.slice A33_1 m3.length c33_1, .int .i64 e2] rfl (by (try simp only [List.map_toArray, List.map_cons, List.map_nil]); first | done | rfl | (simp only [HLA29_0.out, HLA33_0.out, HLA33_1.out]; rfl)) ?_; refine (laws_heldAlarmS.calls k _ _ m3 e2 e3 _ (Kd.S_reads' G.at_.1.1.1.2).2.2 ((Kd.S_reads' G.at_.1.1.1.2).1 ▸ (Kd.S_reads' G.at_.1.1.1.2).2.1) F12.out).mono ?_; rintro e w1 ⟨rfl, hb⟩; refine ⟨_, rfl, ?_⟩; have G1 := (G.go hb); clear G hb; have G := G1; clear G1))
 have hk3_ := K3.out
 go_upto_region 26 with (fail)
 have hk4_ := K4.out
 go_upto_region 28 with (fail)
 obtain ⟨zg2_0, zg2_1, zg2_2⟩ := G.at_.1.1.1.1.1.1.1.1.1.1.1.1.1.1.1.1.1.2
 go_upto_region 29 with (first | ((with_reducible refine gate_callee (f := 31) rfl ?_); refine goesL_ (some 89) rfl rfl Try.func31 (by kernel_rfl) rfl #[.agg #[.int .i64 a0_0, .int .i64 a0_1, .slice A0_2 l0_2.length c0_2]] rfl (by (try simp only [List.map_toArray, List.map_cons, List.map_nil]); first | done | rfl) ?_; refine (laws_toPart2.calls k a0_0 a0_1 _ _ l0_2 ph pv pl _ (Kd.C_below HR0_2.out G.at_.1.1.1.1.1.1.1.1.1.1.1.1.1.1.1.1.1.1.1) Hc0_2.out F2.out).mono ?_; rintro e w1 ⟨v89_0, rfl, ho89_0, hb⟩; refine ⟨_, rfl, ?_⟩; obtain ⟨A89_0, c89_0, rfl, _, _⟩ := Kd.S_reads ho89_0; obtain ⟨loA89_0, hiA89_0, hOA89_0, hTA89_0, hSA89_0⟩ := newS G.at_.2 G.at_.1.1.1.1.1.1.1.1.1.1.1.1.1.1.1.1.1.1.1 hb ho89_0; have OA89_0 := aM hOA89_0; clear hOA89_0 ho89_0; have G1 := (((G.go hb).add (Gs.ownS hSA89_0)).add (Gs.top hTA89_0)); clear G hb hSA89_0 hTA89_0; have G := G1; clear G1) | ((with_reducible refine gate_callee (f := 42) rfl ?_); refine goesL_ (some 91) rfl rfl Try.func42 (by kernel_rfl) rfl #[.agg #[.int .i64 ph, .int .i64 pv, .slice A89_0 pl.length c89_0], .int .i64 a1] rfl (by (try simp only [List.map_toArray, List.map_cons, List.map_nil]); first | done | rfl) ?_; refine (impl_SweepIn2.calls k ph pv _ _ pl a1 sh sv so sg _ (Kd.S_reads' G.at_.1.2).2.2 ((Kd.S_reads' G.at_.1.2).1 ▸ (Kd.S_reads' G.at_.1.2).2.1) F4.out).mono ?_; rintro e w1 ⟨v91_0, v91_1, Pd91, rfl, ho91_0, ho91_1, hb⟩; refine ⟨_, rfl, ?_⟩; obtain ⟨A91_0, c91_0, rfl, _, _⟩ := Kd.S_reads ho91_0; obtain ⟨A91_1, c91_1, rfl, _, _⟩ := Kd.S_reads ho91_1; obtain ⟨loA91_0, hiA91_0, hOA91_0, hTA91_0, hSA91_0, hSA91_1⟩ := new2P G.at_.2 G.at_.1.1.1.1.1.1.1.1.1.1.1.1.1.1.1.1.1.1.1.1.1 hb ho91_0 ho91_1; have OA91_0 := aM hOA91_0; clear hOA91_0 ho91_0 ho91_1; have G1 := ((((G.go hb).add (Gs.ownS hSA91_0)).add (Gs.ownS hSA91_1)).add (Gs.top hTA91_0)); clear G hb hSA91_0 hSA91_1 hTA91_0; have G := G1; clear G1) | ((with_reducible refine gate_dst (N := 14) rfl ?_); refine box_event ?hg (N := 14) ?hd (cs := #[.int .i64 0, .int .i64 0, .slice none 0 0]) (t := 55) ?hr ?_; (case hd => rfl); (case hg => rfl); (case hr => first | (go_simp; done) | (go_simp; rfl)); intro g14 hg w2 hbox hb; have Hg14 := aM (show hiA91_0 ≤ g14 from hg ▸ G.at_.2); have HB_g14 := aM hb; have HE_g14 := aM hg; have BK_g14 := aM hbox; have zg14_0 := cz3_0 ⟨hbox⟩; have yg14_0 := blk_frozen hbox 0; have zg14_1 := cz3_1 ⟨hbox⟩; have yg14_1 := blk_frozen hbox 1; have zg14_2 := cz3_2 ⟨hbox⟩; have yg14_2 := blk_frozen hbox 2; clear hb hbox hg))
 (try clear zg2_0)
 (try clear zg2_1)
 (try clear zg2_2)
 (try clear zg14_0)
 (try clear yg14_0)
 (try clear zg14_1)
 (try clear yg14_1)
 (try clear zg14_2)
 (try clear yg14_2)
 have G1 := ((Gs.put3 (.int .i64 sh) (.int .i64 sv) (.slice A91_0 so.length c91_0) G HB_g14 HE_g14 BK_g14)).add (Gs.top (Nat.succ_le_of_lt (blk_lt (set3_blk BK_g14.out))))
 clear G; have G := G1; clear G1
 generalize (((w2.setCell ⟨g14, 0, none⟩ (.int .i64 sh)).setCell ⟨g14, 1, none⟩ (.int .i64 sv)).setCell ⟨g14, 2, none⟩ (.slice A91_0 so.length c91_0)) = w3 at G ⊢
 clear HB_g14 HE_g14 BK_g14
 obtain ⟨zg14_0, zg14_1, zg14_2⟩ := G.at_.1.2
 obtain ⟨zg6_0, zg6_1, zg6_2⟩ := G.at_.1.1.1.1.1.1.1.1.1.1.1.1.1.1.1.1.1.2
 go_upto_region 31 with (first | ((with_reducible refine gate_callee (f := 33) rfl ?_); refine goesL_ (some 96) rfl rfl Try.func33 (by kernel_rfl) rfl #[.agg #[.int .i64 sh, .int .i64 sv, .slice A91_0 so.length c91_0], .agg #[.int .i64 sh, .int .i64 sv, .slice A25_0 so.length c25_0]] rfl (by (try simp only [List.map_toArray, List.map_cons, List.map_nil]); first | done | rfl) ?_; refine (laws_eqPart.calls k sh sv _ _ so sh sv _ _ so true _ (Kd.S_reads' G.at_.1.1.1.1.2).2.2 ((Kd.S_reads' G.at_.1.1.1.1.2).1 ▸ (Kd.S_reads' G.at_.1.1.1.1.2).2.1) (Kd.S_reads' G.at_.1.1.1.1.1.1.1.1.1.1.1.1.1.1.1.1.1.1.1.1.2).2.2 ((Kd.S_reads' G.at_.1.1.1.1.1.1.1.1.1.1.1.1.1.1.1.1.1.1.1.1.2).1 ▸ (Kd.S_reads' G.at_.1.1.1.1.1.1.1.1.1.1.1.1.1.1.1.1.1.1.1.1.2).2.1) F5.out).mono ?_; rintro e w1 ⟨rfl, hb⟩; refine ⟨_, rfl, ?_⟩; have G1 := (G.go hb); clear G hb; have G := G1; clear G1) | ((with_reducible refine gate_callee (f := 24) rfl ?_); refine gate_guard (by rfl) ?_; refine goesL_ (some 101) rfl rfl Try.func24 (by kernel_rfl) rfl #[.slice A91_1 sg.length c91_1, .slice A25_1 sg.length c25_1] rfl (by (try simp only [List.map_toArray, List.map_cons, List.map_nil]); first | done | rfl) ?_; refine (laws_eqAlarmS.calls k _ _ sg _ _ sg true _ (Kd.S_reads' G.at_.1.1.1.2).2.2 ((Kd.S_reads' G.at_.1.1.1.2).1 ▸ (Kd.S_reads' G.at_.1.1.1.2).2.1) (Kd.S_reads' G.at_.1.1.1.1.1.1.1.1.1.1.1.1.1.1.1.1.1.1.1.2).2.2 ((Kd.S_reads' G.at_.1.1.1.1.1.1.1.1.1.1.1.1.1.1.1.1.1.1.1.2).1 ▸ (Kd.S_reads' G.at_.1.1.1.1.1.1.1.1.1.1.1.1.1.1.1.1.1.1.1.2).2.1) F6.out).mono ?_; rintro e w1 ⟨rfl, hb⟩; refine ⟨_, rfl, ?_⟩; have G1 := (G.go hb); clear G hb; have G := G1; clear G1))
 (try clear zg14_0)
 (try clear zg14_1)
 (try clear zg14_2)
 (try clear zg6_0)
 (try clear zg6_1)
 (try clear zg6_2)
 go_upto_region 32 with (fail)
 obtain ⟨zg9_0, zg9_1, zg9_2⟩ := G.at_.1.1.1.1.1.1.1.1.2
 go_upto_region 33 with (first | ((with_reducible refine gate_callee (f := 43) rfl ?_); refine goesL_ (some 106) rfl rfl Try.func43 (by kernel_rfl) rfl #[.agg #[.int .i64 sh, .int .i64 sv, .slice A33_0 m2.length c33_0], .int .i64 1] rfl (by (try simp only [List.map_toArray, List.map_cons, List.map_nil]); first | done | rfl | (simp only [HLA29_0.out, HLA33_0.out, HLA33_1.out]; rfl)) ?_; refine (laws_heldPart.calls k sh sv _ _ m2 1 e2 _ (Kd.S_reads' G.at_.1.1.1.1.1.1.1.1.1.1.1.2).2.2 ((Kd.S_reads' G.at_.1.1.1.1.1.1.1.1.1.1.1.2).1 ▸ (Kd.S_reads' G.at_.1.1.1.1.1.1.1.1.1.1.1.2).2.1) F11.out).mono ?_; rintro e w1 ⟨rfl, hb⟩; refine ⟨_, rfl, ?_⟩; have G1 := (G.go hb); clear G hb; have G := G1; clear G1))
 (try clear zg9_0)
 (try clear zg9_1)
 (try clear zg9_2)
 have hk2_ := K2.out
 go_upto_region 35 with (fail)
 go_upto_region 36 with (first | ((with_reducible refine gate_callee (f := 28) rfl ?_); refine goesL_ (some 111) rfl rfl Try.func28 (by kernel_rfl) rfl #[.slice A33_1 m3.length c33_1, .int .i64 e2] rfl (by (try simp only [List.map_toArray, List.map_cons, List.map_nil]); first | done | rfl | (simp only [HLA29_0.out, HLA33_0.out, HLA33_1.out]; rfl)) ?_; refine (laws_heldAlarmS.calls k _ _ m3 e2 e3 _ (Kd.S_reads' G.at_.1.1.1.1.1.1.1.1.1.1.2).2.2 ((Kd.S_reads' G.at_.1.1.1.1.1.1.1.1.1.1.2).1 ▸ (Kd.S_reads' G.at_.1.1.1.1.1.1.1.1.1.1.2).2.1) F12.out).mono ?_; rintro e w1 ⟨rfl, hb⟩; refine ⟨_, rfl, ?_⟩; have G1 := (G.go hb); clear G hb; have G := G1; clear G1))
 have hk3_ := K3.out
 go_upto_region 38 with (fail)
 have hk4_ := K4.out
 go_upto_region 40 with (fail)
 try go_wp2
 try go_wp2
 go_ret
 exact ⟨rfl, G.at_.1.1.1.1.1.1.1.1.1.1.1.1.1.1.1.1.1.1.1.1.1.1.1.1.1.1⟩
/-- What each call of the law gives, at rounds k. -/
def laws_FnExactSweepIn.Facts (k : Nat) (a0_0 : Int) (a0_1 : Int) (l0_2 : List S35) (a1 : Int) : Prop := (∃ (q1 : Int), (laws_szPart.f k a0_0 a0_1 l0_2 1048576 = some q1) ∧
  (decide (q1 < 0) = true)) ∨
  (∃ (q1 : Int) (ph : Int) (pv : Int) (pl : List (S39)) (sh : Int) (sv : Int) (so : List (S39)) (sg : List (S26)) (e1 : Int) (pm : List (S39)) (e2 : Int) (m2 : List (S39)) (e3 : Int) (m3 : List (S26)), (laws_szPart.f k a0_0 a0_1 l0_2 1048576 = some q1) ∧
  (laws_toPart.f k a0_0 a0_1 l0_2 = some (ph, pv, pl)) ∧
  (spec_SweepIn2.f k ph pv pl a1 = some (sh, sv, so, sg)) ∧
  (impl_SweepIn2.f k ph pv pl a1 = some (sh, sv, so, sg)) ∧
  (laws_eqPart.f k sh sv so sh sv so = some true) ∧
  (laws_eqAlarmS.f k sg sg = some true) ∧
  (laws_eqPart.f k ph pv pl ph pv pl = some true) ∧
  (laws_markPart.f k ph pv pl 1 = some (e1, pm)) ∧
  (laws_markPart.f k sh sv so 1 = some (e2, m2)) ∧
  (laws_markAlarmS.f k sg e2 = some (e3, m3)) ∧
  (laws_heldPart.f k sh sv m2 1 = some e2) ∧
  (laws_heldAlarmS.f k m3 e2 = some e3) ∧
  (decide (q1 < 0) = false) ∧
  (decide (e1 < 0) = false) ∧
  (decide (e2 < 0) = false) ∧
  (decide (e3 < 0) = false) ∧
  ((e3 != e3) = false))
open Classical in
/-- What the law gives: true, where each call gives what the way wants. -/
noncomputable def laws_FnExactSweepIn.f (k : Nat) (a0_0 : Int) (a0_1 : Int) (l0_2 : List S35) (a1 : Int) : Option (Bool) := if laws_FnExactSweepIn.Facts k a0_0 a0_1 l0_2 a1 then some true else none
theorem laws_FnExactSweepIn.f_of {k : Nat} {a0_0 : Int} {a0_1 : Int} {l0_2 : List S35} {a1 : Int} (h : laws_FnExactSweepIn.Facts k a0_0 a0_1 l0_2 a1) : laws_FnExactSweepIn.f k a0_0 a0_1 l0_2 a1 = some true := if_pos h
theorem laws_FnExactSweepIn.calls (k : Nat) (a0_0 : Int) (a0_1 : Int) (A0_2 : Option Addr) (c0_2 : Nat) (l0_2 : List S35) (a1 : Int) (r : Bool) (w : World) (hr0_2 : Kd.C k35 w A0_2 l0_2.length l0_2) (hc0_2 : l0_2.length ≤ c0_2) (hr_ : Aside0 (r = true)) (h : laws_FnExactSweepIn.f k a0_0 a0_1 l0_2 a1 = some r) :
    Calls Try.prog 7 #[.agg #[.int .i64 a0_0, .int .i64 a0_1, .slice A0_2 l0_2.length c0_2], .int .i64 a1] w fun e w' => e = .returned (.bool r) ∧ Below w.heap.size w w' := by
 unfold laws_FnExactSweepIn.f at h
 by_cases hf : laws_FnExactSweepIn.Facts k a0_0 a0_1 l0_2 a1
 · rw [if_pos hf] at h
   obtain rfl := Option.some.inj h
   rcases hf with hf | hf
   · obtain ⟨q1, h_0, h_1⟩ := hf
     exact laws_FnExactSweepIn.early1 k a0_0 a0_1 A0_2 c0_2 l0_2 a1 w hr0_2 hc0_2 q1 ⟨h_0⟩ ⟨h_1⟩
   · obtain ⟨q1, ph, pv, pl, sh, sv, so, sg, e1, pm, e2, m2, e3, m3, h_0, h_1, h_2, h_3, h_4, h_5, h_6, h_7, h_8, h_9, h_10, h_11, h_12, h_13, h_14, h_15, h_16⟩ := hf
     exact laws_FnExactSweepIn.way k a0_0 a0_1 A0_2 c0_2 l0_2 a1 w hr0_2 hc0_2 q1 ph pv pl sh sv so sg e1 pm e2 m2 e3 m3 ⟨h_0⟩ ⟨h_1⟩ ⟨h_2⟩ ⟨h_3⟩ ⟨h_4⟩ ⟨h_5⟩ ⟨h_6⟩ ⟨h_7⟩ ⟨h_8⟩ ⟨h_9⟩ ⟨h_10⟩ ⟨h_11⟩ ⟨h_12⟩ ⟨h_13⟩ ⟨h_14⟩ ⟨h_15⟩ ⟨h_16⟩
 · rw [if_neg hf] at h
   cases h
end Go.Proofs.Ytgindocfjoalhaa.PFnExactSweepIn
