/- That FnExactDropOver answers true, out of what each of its calls gives; no conditions. -/
import Derived.Test.YtgindocfjoalhaaPFnExactDropOverx0
import Derived.Test.YtgindocfjoalhaaPFnExactDropOverx1
import Derived.Test.YtgindocfjoalhaaPFnExactDropOverx2
import Derived.Test.YtgindocfjoalhaaPFnExactDropOverx3
import Derived.Test.YtgindocfjoalhaaPFnExactDropOverx4
import Derived.Test.YtgindocfjoalhaaPFnExactDropOverx5
namespace Go.Proofs.Ytgindocfjoalhaa.PFnExactDropOver
open Go.RowKit Go.Proofs.YtgindocfjoalhaaW.PrintWords Go.Proofs.YtgindocfjoalhaaW.PrintLast Go.Proofs.YtgindocfjoalhaaW.PrintMore
attribute [local go_sem] max2_int min2_int max_two min_two max_three min_three max_four min_four   -- for this text's walks alone
set_option linter.unusedVariables false
set_option linter.unusedSimpArgs false

/-- What is told of the world stays told where only new blocks come up. -/
structure Gs (Φ : World → Prop) (W : World) : Prop where
  at_ : Φ W
  st : ∀ {V V' : World}, Below V.heap.size V V' → Φ V → Φ V'
theorem Gs.go {Φ : World → Prop} {W W' : World} (h : Gs Φ W) (hb : Below W.heap.size W W') : Gs Φ W' := ⟨h.st hb h.at_, h.st⟩
theorem Gs.add {Φ Ψ : World → Prop} {W : World} (h : Gs Φ W) (k : Gs Ψ W) : Gs (fun w => Φ w ∧ Ψ w) W := ⟨⟨h.at_, k.at_⟩, fun hb hp => ⟨h.st hb hp.1, k.st hb hp.2⟩⟩
theorem Gs.left {Φ Ψ : World → Prop} {W : World} (h : Gs Φ W) (hd : ∀ {V V' : World}, Below V.heap.size V V' → Ψ V → Ψ V') (hk : ∀ w, Φ w → Ψ w) : Gs Ψ W := ⟨hk W h.at_, hd⟩
theorem Gs.hide {Φ : World → Prop} {W : World} {C : Prop} (G : Gs Φ W) (h : ∀ Ψ : World → Prop, Gs Ψ W → (∀ V, Ψ V → Φ V) → (∀ V, Gs Ψ V → Gs Φ V) → C) : C := h Φ G (fun _ h => h) (fun _ h => h)
theorem Gs.below (w : World) : Gs (fun W => Below w.heap.size w W) w := ⟨Below.refl _ _, fun hb h => below_step h hb⟩
theorem Gs.cell {a : Addr} {v : Value} {W : World} (h : W.cell? a = some v) : Gs (fun W => W.cell? a = some v) W := ⟨h, fun hb h => pw_cell_below hb h⟩
theorem Gs.row {α : Type} {d : Kd α} {A : Option Addr} {n : Nat} {xs : List α} {W : World} (h : d.C W A n xs) : Gs (fun W => d.C W A n xs) W := ⟨h, fun hb h => Kd.C_below h hb⟩
def box4 (g : Nat) (b0 b1 b2 b3 : Value) (w : World) : Prop := w.cell? ⟨g, 0, none⟩ = some b0 ∧ w.cell? ⟨g, 1, none⟩ = some b1 ∧ w.cell? ⟨g, 2, none⟩ = some b2 ∧ w.cell? ⟨g, 3, none⟩ = some b3
theorem Gs.ofBox4 {g : Nat} {t : TypeId} {b0 b1 b2 b3 : Value} {W : World} (h : W.heap[g]? = some (.cells #[b0, b1, b2, b3] t (0, 0))) : Gs (box4 g b0 b1 b2 b3) W :=
  ⟨⟨(blk_cell h 0).trans rfl, (blk_cell h 1).trans rfl, (blk_cell h 2).trans rfl, (blk_cell h 3).trans rfl⟩, fun hb h => ⟨pw_cell_below hb h.1, pw_cell_below hb h.2.1, pw_cell_below hb h.2.2.1, pw_cell_below hb h.2.2.2⟩⟩
theorem set4_blk {W : World} {g : Nat} {t : TypeId} {c0 c1 c2 c3 b0 b1 b2 b3 : Value} (h : W.heap[g]? = some (.cells #[c0, c1, c2, c3] t (0, 0))) :
    ((((W.setCell ⟨g, 0, none⟩ b0).setCell ⟨g, 1, none⟩ b1).setCell ⟨g, 2, none⟩ b2).setCell ⟨g, 3, none⟩ b3).heap[g]? = some (.cells #[b0, b1, b2, b3] t (0, 0)) :=
  blk_put (blk_put (blk_put (blk_put h 0 b0 rfl) 1 b1 rfl) 2 b2 rfl) 3 b3 rfl
theorem set4_far {W : World} {g k : Nat} {o : Obj} {b0 b1 b2 b3 : Value} (h : W.heap[k]? = some o) (hk : k ≠ g) :
    ((((W.setCell ⟨g, 0, none⟩ b0).setCell ⟨g, 1, none⟩ b1).setCell ⟨g, 2, none⟩ b2).setCell ⟨g, 3, none⟩ b3).heap[k]? = some o :=
  (Below.heap_setCell _ ⟨g, 3, none⟩ b3 k hk).trans ((Below.heap_setCell _ ⟨g, 2, none⟩ b2 k hk).trans ((Below.heap_setCell _ ⟨g, 1, none⟩ b1 k hk).trans ((Below.heap_setCell _ ⟨g, 0, none⟩ b0 k hk).trans h)))
theorem set4_below {V W : World} {g : Nat} {b0 b1 b2 b3 : Value} (h : Below V.heap.size V W) (hg : V.heap.size ≤ g) :
    Below V.heap.size V ((((W.setCell ⟨g, 0, none⟩ b0).setCell ⟨g, 1, none⟩ b1).setCell ⟨g, 2, none⟩ b2).setCell ⟨g, 3, none⟩ b3) :=
  below_set (below_set (below_set (below_set h hg) hg) hg) hg
/-- A variable of four cells, made and written. -/
theorem Gs.put4 {Φ : World → Prop} {V W : World} {g : Nat} {t : TypeId} {c0 c1 c2 c3 : Value} (b0 b1 b2 b3 : Value) (G : Gs Φ V) (hb : Aside0 (Below V.heap.size V W)) (hg : Aside0 (g = V.heap.size)) (hx : Aside0 (W.heap[g]? = some (.cells #[c0, c1, c2, c3] t (0, 0)))) :
    Gs (fun w => Φ w ∧ box4 g b0 b1 b2 b3 w) ((((W.setCell ⟨g, 0, none⟩ b0).setCell ⟨g, 1, none⟩ b1).setCell ⟨g, 2, none⟩ b2).setCell ⟨g, 3, none⟩ b3) :=
  (G.go (set4_below hb.out (Nat.le_of_eq hg.out.symm))).add (Gs.ofBox4 (set4_blk hx.out))
/-- Two variables of four cells, made, then written. -/
theorem Gs.put44 {Φ : World → Prop} {V W X : World} {g g' : Nat} {t t' : TypeId} {c0 c1 c2 c3 c0' c1' c2' c3' : Value} (b0 b1 b2 b3 b0' b1' b2' b3' : Value) (G : Gs Φ V) (hb : Aside0 (Below V.heap.size V W)) (hg : Aside0 (g = V.heap.size)) (hx : Aside0 (W.heap[g]? = some (.cells #[c0, c1, c2, c3] t (0, 0))))
    (hb' : Aside0 (Below W.heap.size W X)) (hg' : Aside0 (g' = W.heap.size)) (hx' : Aside0 (X.heap[g']? = some (.cells #[c0', c1', c2', c3'] t' (0, 0)))) :
    Gs (fun w => (Φ w ∧ box4 g b0 b1 b2 b3 w) ∧ box4 g' b0' b1' b2' b3' w) ((((((((X.setCell ⟨g, 0, none⟩ b0).setCell ⟨g, 1, none⟩ b1).setCell ⟨g, 2, none⟩ b2).setCell ⟨g, 3, none⟩ b3).setCell ⟨g', 0, none⟩ b0').setCell ⟨g', 1, none⟩ b1').setCell ⟨g', 2, none⟩ b2').setCell ⟨g', 3, none⟩ b3') := by
  have hlt := blk_lt hx.out
  have hne : g ≠ g' := by rw [hg'.out]; omega
  have e1 : V.heap.size ≤ g := Nat.le_of_eq hg.out.symm
  have e2 : V.heap.size ≤ g' := by rw [hg'.out]; exact hb.out.size
  exact ((G.go (set4_below (set4_below (below_step hb.out hb'.out) e1) e2)).add (Gs.ofBox4 (set4_far (set4_blk (blk_below hx.out hb'.out)) hne))).add (Gs.ofBox4 (set4_blk (set4_far hx'.out (Ne.symm hne))))
section
open Go.Proofs.YtgindocfjoalhaaW.PrintLast
variable {P : Program} {ops : Array Oper} {Q : Exit → Act → World → Prop} {Φ : World → Prop} {n m fuel : Nat} {a : Act} {w : World} {T : Bool × List (List Nat × List Nat)} {B : List Nat}
theorem bz_nil (n : Nat) : Array.replicate n false = bz n 0 := by
  unfold bz
  rw [List.map_eq_replicate_iff.2 (fun x _ => Nat.zero_testBit x)]
  simp
/-- A region that draws its order, at its head. -/
theorem reg {id : Nat} (G : Gs Φ w) (hm : P.follows .mixedOrders = true) (hn : ops.size = n) (hT : rtab .any ops = T) (hB : waitsOk T.2 B = true)
    (h : ∀ W, Below w.heap.size w W → Gs Φ W → Aside0 (rtab .any ops = T) → Aside0 (waitsOk T.2 B = true) → wpAnyLast P .any ops Q Φ [] n (bz n 0) a W) : (Code.region id ops true).wp P Q a w :=
  start_ (bz n 0) hm hn (bz_nil n) (G.go (below_drew (Below.refl _ _))).at_ (fun _ => h _ (below_drew (Below.refl _ _)) (G.go (below_drew (Below.refl _ _))) ⟨hT⟩ ⟨hB⟩)
/-- A call in such a region. -/
theorem rc {oi : Oper} (i : Nat) (t : Tmp) (m' : Nat) (HT : Aside0 (rtab .any ops = T)) (hi : ops[i]? = some oi) (hN : oi.dst = some t) (hc : (readyT T.2 (bz n m).toList == [i] && (bz n m).toList.set i true == (bz n m').toList) = true)
    {f : FuncId} {fn : Func} {ars : Array Operand} {ts : Array TypeId} (hf : P.funcs[f]? = some fn) (hname : (fn.name == "runtime.NumGoroutine") = false) (hb : fn.body.isSome = true) (hop : oi.op = .call { callee := .value (.func f), args := ars, argTypes := ts }) (args : Array Value)
    (hw : Region.wanted oi (yielded ops a.tmps) = true) (hargs : ars.map a.eval = args)
    (h : Calls P f args w fun e w' => ∃ v, e = .returned v ∧ Φ w' ∧ ∀ a', a.put (some t) v = a' → wpAnyLast P .any ops Q Φ [] fuel (bz n m') a' w') : wpAnyLast P .any ops Q Φ [] (fuel + 1) (bz n m) a w := by
  refine one_ (bz n m') hi hN (one_of HT.out hc) (by simp) (fun K hK => ?_)
  refine goes_ hf hname hb args hw hN hop hargs (h.mono fun e w' hh => ?_)
  obtain ⟨v, he, hp, hr⟩ := hh
  exact ⟨v, he, hK.out _ _ hp (fun _ => hr _ rfl)⟩
end
/-- Block numbers from lo to hi. -/
def Iv (lo hi k : Nat) : Prop := lo ≤ k ∧ k < hi
theorem Gs.top {T : Nat} {W : World} (h : T ≤ W.heap.size) : Gs (fun W => T ≤ W.heap.size) W := ⟨h, fun hb h => Nat.le_trans h hb.size⟩
theorem Gs.bel {w W : World} (h : Below w.heap.size w W) : Gs (fun W => Below w.heap.size w W) W := ⟨h, fun hb h => below_step h hb⟩
theorem Gs.ownS {α : Type} {d : Kd α} {e base : Nat} {ok : Nat → Prop} {v : Value} {xs : List α} {W : World} (h : Kd.S d e W base ok v xs) : Gs (fun W => Kd.S d e W base ok v xs) W := ⟨h, fun hb h => Kd.S_below h hb⟩
theorem Gs.ownR {α : Type} {d : Kd α} {e base : Nat} {ok : Nat → Prop} {v : Value} {xs : List α} {W : World} (h : d.R e W base ok v xs) : Gs (fun W => d.R e W base ok v xs) W := ⟨h, fun hb h => Kd.R_below h hb⟩
theorem newS {α : Type} {d : Kd α} {e T : Nat} {w0 W w1 : World} {ok : Nat → Prop} {v : Value} {xs : List α} (hT : T ≤ W.heap.size) (hb0 : Below w0.heap.size w0 W) (hb : Below W.heap.size W w1) (h : Kd.S d e w1 W.heap.size ok v xs) : ∃ lo hi, (T ≤ lo ∧ lo ≤ hi) ∧ hi ≤ w1.heap.size ∧ Kd.S d e w1 w0.heap.size (Iv lo hi) v xs :=
  ⟨W.heap.size, w1.heap.size, ⟨hT, hb.size⟩, Nat.le_refl _, Kd.S_lower (Kd.S_mono (Kd.S_bound h) (fun k hk => ⟨hk.2.1, hk.2.2.1⟩)) hb0.size⟩
theorem newR {α : Type} {d : Kd α} {e T : Nat} {w0 W w1 : World} {ok : Nat → Prop} {v : Value} {xs : List α} (hT : T ≤ W.heap.size) (hb0 : Below w0.heap.size w0 W) (hb : Below W.heap.size W w1) (h : d.R e w1 W.heap.size ok v xs) : ∃ lo hi, (T ≤ lo ∧ lo ≤ hi) ∧ hi ≤ w1.heap.size ∧ d.R e w1 w0.heap.size (Iv lo hi) v xs :=
  ⟨W.heap.size, w1.heap.size, ⟨hT, hb.size⟩, Nat.le_refl _, Kd.R_lower (Kd.R_mono (Kd.R_bound h) (fun k hk => ⟨hk.2.1, hk.2.2.1⟩)) hb0.size⟩
theorem new2 {α β : Type} {d : Kd α} {d' : Kd β} {e e' T : Nat} {w0 W w1 : World} {ok ok' : Nat → Prop} {v v' : Value} {xs : List α} {ys : List β} (hT : T ≤ W.heap.size) (hb0 : Below w0.heap.size w0 W) (hb : Below W.heap.size W w1) (h : Kd.S d e w1 W.heap.size ok v xs) (h' : Kd.S d' e' w1 W.heap.size ok' v' ys) : ∃ lo hi, (T ≤ lo ∧ lo ≤ hi) ∧ hi ≤ w1.heap.size ∧ Kd.S d e w1 w0.heap.size (fun k_ => Iv lo hi k_) v xs ∧ Kd.S d' e' w1 w0.heap.size (fun k_ => Iv lo hi k_) v' ys :=
  ⟨W.heap.size, w1.heap.size, ⟨hT, hb.size⟩, Nat.le_refl _, Kd.S_lower (Kd.S_mono (Kd.S_bound h) (fun k hk => ⟨hk.2.1, hk.2.2.1⟩)) hb0.size, Kd.S_lower (Kd.S_mono (Kd.S_bound h') (fun k hk => ⟨hk.2.1, hk.2.2.1⟩)) hb0.size⟩
theorem new2P {α β : Type} {d : Kd α} {d' : Kd β} {e e' T : Nat} {w0 W w1 : World} {P : Nat → Prop} {v v' : Value} {xs : List α} {ys : List β} (hT : T ≤ W.heap.size) (hb0 : Below w0.heap.size w0 W) (hb : Below W.heap.size W w1) (h : Kd.S d e w1 W.heap.size (fun k_ => P k_) v xs) (h' : Kd.S d' e' w1 W.heap.size (fun k_ => ¬ P k_) v' ys) : ∃ lo hi, (T ≤ lo ∧ lo ≤ hi) ∧ hi ≤ w1.heap.size ∧ Kd.S d e w1 w0.heap.size (fun k_ => Iv lo hi k_ ∧ P k_) v xs ∧ Kd.S d' e' w1 w0.heap.size (fun k_ => Iv lo hi k_ ∧ ¬ P k_) v' ys :=
  ⟨W.heap.size, w1.heap.size, ⟨hT, hb.size⟩, Nat.le_refl _, Kd.S_lower (Kd.S_mono (Kd.S_bound h) (fun k hk => ⟨⟨hk.2.1, hk.2.2.1⟩, hk.1⟩)) hb0.size, Kd.S_lower (Kd.S_mono (Kd.S_bound h') (fun k hk => ⟨⟨hk.2.1, hk.2.2.1⟩, hk.1⟩)) hb0.size⟩
theorem Gs.blk {g : Nat} {t : TypeId} {cs : Array Value} {W : World} (h : W.heap[g]? = some (.cells cs t (0, 0))) : Gs (fun W => W.heap[g]? = some (.cells cs t (0, 0))) W := ⟨h, fun hb h => blk_below h hb⟩
def box2 (g : Nat) (b0 b1 : Value) (w : World) : Prop := w.cell? ⟨g, 0, none⟩ = some b0 ∧ w.cell? ⟨g, 1, none⟩ = some b1
theorem Gs.ofBox2 {g : Nat} {t : TypeId} {b0 b1 : Value} {W : World} (h : W.heap[g]? = some (.cells #[b0, b1] t (0, 0))) : Gs (box2 g b0 b1) W := ⟨⟨(blk_cell h 0).trans rfl, (blk_cell h 1).trans rfl⟩, fun hb h => ⟨pw_cell_below hb h.1, pw_cell_below hb h.2⟩⟩
theorem set2_blk {W : World} {g : Nat} {t : TypeId} {c0 c1 b0 b1 : Value} (hx : W.heap[g]? = some (.cells #[c0, c1] t (0, 0))) : ((W.setCell ⟨g, 0, none⟩ b0).setCell ⟨g, 1, none⟩ b1).heap[g]? = some (.cells #[b0, b1] t (0, 0)) := (blk_put (blk_put hx 0 b0 rfl) 1 b1 rfl)
theorem set2_far {W : World} {g k : Nat} {o : Obj} {b0 b1 : Value} (h : W.heap[k]? = some o) (hk : k ≠ g) : ((W.setCell ⟨g, 0, none⟩ b0).setCell ⟨g, 1, none⟩ b1).heap[k]? = some o := ((Below.heap_setCell _ ⟨g, 1, none⟩ b1 k hk).trans ((Below.heap_setCell _ ⟨g, 0, none⟩ b0 k hk).trans h))
theorem set2_below {V W : World} {g : Nat} {b0 b1 : Value} (h : Below V.heap.size V W) (hg : V.heap.size ≤ g) : Below V.heap.size V ((W.setCell ⟨g, 0, none⟩ b0).setCell ⟨g, 1, none⟩ b1) := (below_set (below_set h hg) hg)
theorem Gs.put2 {Φ : World → Prop} {V W : World} {g : Nat} {t : TypeId} {c0 c1 : Value} (b0 b1 : Value) (G : Gs Φ V) (hb : Aside0 (Below V.heap.size V W)) (hg : Aside0 (g = V.heap.size)) (hx : Aside0 (W.heap[g]? = some (.cells #[c0, c1] t (0, 0)))) :
    Gs (fun w => Φ w ∧ box2 g b0 b1 w) ((W.setCell ⟨g, 0, none⟩ b0).setCell ⟨g, 1, none⟩ b1) :=
  (G.go (set2_below hb.out (Nat.le_of_eq hg.out.symm))).add (Gs.ofBox2 (set2_blk hx.out))
theorem box2_kept {g : Nat} {b0 b1 : Value} {W W2 : World} {S : Nat → Prop} (h : box2 g b0 b1 W) (hk : Kept W W2 S) (hn : ¬ S g) : box2 g b0 b1 W2 := ⟨cell_kept h.1 hk hn, cell_kept h.2 hk hn⟩
theorem Gs.ofB2 {g : Nat} {b0 b1 : Value} {W : World} (h : box2 g b0 b1 W) : Gs (box2 g b0 b1) W := ⟨h, fun hb h => ⟨pw_cell_below hb h.1, pw_cell_below hb h.2⟩⟩
def box3 (g : Nat) (b0 b1 b2 : Value) (w : World) : Prop := w.cell? ⟨g, 0, none⟩ = some b0 ∧ w.cell? ⟨g, 1, none⟩ = some b1 ∧ w.cell? ⟨g, 2, none⟩ = some b2
theorem Gs.ofBox3 {g : Nat} {t : TypeId} {b0 b1 b2 : Value} {W : World} (h : W.heap[g]? = some (.cells #[b0, b1, b2] t (0, 0))) : Gs (box3 g b0 b1 b2) W := ⟨⟨(blk_cell h 0).trans rfl, (blk_cell h 1).trans rfl, (blk_cell h 2).trans rfl⟩, fun hb h => ⟨pw_cell_below hb h.1, pw_cell_below hb h.2.1, pw_cell_below hb h.2.2⟩⟩
theorem set3_blk {W : World} {g : Nat} {t : TypeId} {c0 c1 c2 b0 b1 b2 : Value} (hx : W.heap[g]? = some (.cells #[c0, c1, c2] t (0, 0))) : (((W.setCell ⟨g, 0, none⟩ b0).setCell ⟨g, 1, none⟩ b1).setCell ⟨g, 2, none⟩ b2).heap[g]? = some (.cells #[b0, b1, b2] t (0, 0)) := (blk_put (blk_put (blk_put hx 0 b0 rfl) 1 b1 rfl) 2 b2 rfl)
theorem set3_far {W : World} {g k : Nat} {o : Obj} {b0 b1 b2 : Value} (h : W.heap[k]? = some o) (hk : k ≠ g) : (((W.setCell ⟨g, 0, none⟩ b0).setCell ⟨g, 1, none⟩ b1).setCell ⟨g, 2, none⟩ b2).heap[k]? = some o := ((Below.heap_setCell _ ⟨g, 2, none⟩ b2 k hk).trans ((Below.heap_setCell _ ⟨g, 1, none⟩ b1 k hk).trans ((Below.heap_setCell _ ⟨g, 0, none⟩ b0 k hk).trans h)))
theorem set3_below {V W : World} {g : Nat} {b0 b1 b2 : Value} (h : Below V.heap.size V W) (hg : V.heap.size ≤ g) : Below V.heap.size V (((W.setCell ⟨g, 0, none⟩ b0).setCell ⟨g, 1, none⟩ b1).setCell ⟨g, 2, none⟩ b2) := (below_set (below_set (below_set h hg) hg) hg)
theorem Gs.put3 {Φ : World → Prop} {V W : World} {g : Nat} {t : TypeId} {c0 c1 c2 : Value} (b0 b1 b2 : Value) (G : Gs Φ V) (hb : Aside0 (Below V.heap.size V W)) (hg : Aside0 (g = V.heap.size)) (hx : Aside0 (W.heap[g]? = some (.cells #[c0, c1, c2] t (0, 0)))) :
    Gs (fun w => Φ w ∧ box3 g b0 b1 b2 w) (((W.setCell ⟨g, 0, none⟩ b0).setCell ⟨g, 1, none⟩ b1).setCell ⟨g, 2, none⟩ b2) :=
  (G.go (set3_below hb.out (Nat.le_of_eq hg.out.symm))).add (Gs.ofBox3 (set3_blk hx.out))
theorem box3_kept {g : Nat} {b0 b1 b2 : Value} {W W2 : World} {S : Nat → Prop} (h : box3 g b0 b1 b2 W) (hk : Kept W W2 S) (hn : ¬ S g) : box3 g b0 b1 b2 W2 := ⟨cell_kept h.1 hk hn, cell_kept h.2.1 hk hn, cell_kept h.2.2 hk hn⟩
theorem Gs.ofB3 {g : Nat} {b0 b1 b2 : Value} {W : World} (h : box3 g b0 b1 b2 W) : Gs (box3 g b0 b1 b2) W := ⟨h, fun hb h => ⟨pw_cell_below hb h.1, pw_cell_below hb h.2.1, pw_cell_below hb h.2.2⟩⟩
theorem box4_kept {g : Nat} {b0 b1 b2 b3 : Value} {W W2 : World} {S : Nat → Prop} (h : box4 g b0 b1 b2 b3 W) (hk : Kept W W2 S) (hn : ¬ S g) : box4 g b0 b1 b2 b3 W2 := ⟨cell_kept h.1 hk hn, cell_kept h.2.1 hk hn, cell_kept h.2.2.1 hk hn, cell_kept h.2.2.2 hk hn⟩
theorem Gs.ofB4 {g : Nat} {b0 b1 b2 b3 : Value} {W : World} (h : box4 g b0 b1 b2 b3 W) : Gs (box4 g b0 b1 b2 b3) W := ⟨h, fun hb h => ⟨pw_cell_below hb h.1, pw_cell_below hb h.2.1, pw_cell_below hb h.2.2.1, pw_cell_below hb h.2.2.2⟩⟩
section
open Go.Proofs.YtgindocfjoalhaaW.PrintLast
variable {P : Program} {ops : Array Oper} {Q : Exit → Act → World → Prop} {Φ : World → Prop} {n m fuel : Nat} {a : Act} {w : World} {T : Bool × List (List Nat × List Nat)} {B : List Nat} {ds : List Nat}
/-- A region that draws its order, at its head; ds: what is done last. -/
theorem regD {id : Nat} (ds : List Nat) (G : Gs Φ w) (hm : P.follows .mixedOrders = true) (hn : ops.size = n) (hT : rtab .any ops = T) (hB : waitsOk T.2 B = true)
    (h : ∀ W, Below w.heap.size w W → Gs Φ W → Aside0 (rtab .any ops = T) → Aside0 (waitsOk T.2 B = true) → wpAnyLast P .any ops Q Φ ds n (bz n 0) a W) : (Code.region id ops true).wp P Q a w :=
  start_ (bz n 0) hm hn (bz_nil n) (G.go (below_drew (Below.refl _ _))).at_ (fun _ => h _ (below_drew (Below.refl _ _)) (G.go (below_drew (Below.refl _ _))) ⟨hT⟩ ⟨hB⟩)
/-- A call in such a region. -/
theorem rcD {oi : Oper} (i : Nat) (t : Tmp) (m' : Nat) (HT : Aside0 (rtab .any ops = T)) (hi : ops[i]? = some oi) (hN : oi.dst = some t) (hd : i ∉ ds) (hc : (readyT T.2 (bz n m).toList == [i] && (bz n m).toList.set i true == (bz n m').toList) = true)
    {f : FuncId} {fn : Func} {ars : Array Operand} {ts : Array TypeId} (hf : P.funcs[f]? = some fn) (hname : (fn.name == "runtime.NumGoroutine") = false) (hb : fn.body.isSome = true) (hop : oi.op = .call { callee := .value (.func f), args := ars, argTypes := ts }) (args : Array Value)
    (hw : Region.wanted oi (yielded ops a.tmps) = true) (hargs : ars.map a.eval = args)
    (h : Calls P f args w fun e w' => ∃ v, e = .returned v ∧ Φ w' ∧ ∀ a', a.put (some t) v = a' → wpAnyLast P .any ops Q Φ ds fuel (bz n m') a' w') : wpAnyLast P .any ops Q Φ ds (fuel + 1) (bz n m) a w := by
  refine one_ (bz n m') hi hN (one_of HT.out hc) hd (fun K hK => ?_)
  refine goes_ hf hname hb args hw hN hop hargs (h.mono fun e w' hh => ?_)
  obtain ⟨v, he, hp, hr⟩ := hh
  exact ⟨v, he, hK.out _ _ hp (fun _ => hr _ rfl)⟩
/-- A block made in a region that draws its order. -/
theorem raD {oi : Oper} (i : Nat) (t : Tmp) (m' : Nat) (v : Nat → Value) (cs : Array Value) (ty : TypeId) (HT : Aside0 (rtab .any ops = T)) (hi : ops[i]? = some oi) (hN : oi.dst = some t) (hd : i ∉ ds) (hc : (readyT T.2 (bz n m).toList == [i] && (bz n m).toList.set i true == (bz n m').toList) = true) (G : Gs Φ w)
    (hw : Region.wanted oi (yielded ops a.tmps) = true) (hrun : (execOp a.eval oi).run P w = .ok (.value (v w.heap.size)) (w.alloc (.cells cs ty (0, 0))))
    (h : ∀ g w2, g = w.heap.size → w2.heap[g]? = some (.cells cs ty (0, 0)) → Below w.heap.size w w2 → Gs Φ w2 → ∀ a', a.put (some t) (v g) = a' → wpAnyLast P .any ops Q Φ ds fuel (bz n m') a' w2) : wpAnyLast P .any ops Q Φ ds (fuel + 1) (bz n m) a w := by
  refine one_ (bz n m') hi hN (one_of HT.out hc) hd (fun K hK => ?_)
  refine value_ hw hN hrun ?_
  exact hK.out _ _ (G.go (below_alloc (Below.refl _ _) _)).at_ (fun _ => h _ _ rfl (blk_new w _) (below_alloc (Below.refl _ _) _) (G.go (below_alloc (Below.refl _ _) _)) _ rfl)
/-- A call and a variable's making, both of which may come up. -/
theorem tcD {oi oj : Oper} (i : Nat) (t : Tmp) (mi : Nat) (j : Nat) (tj : Tmp) (mj : Nat) (v : Nat → Value) (cs : Array Value) (ty : TypeId) (HT : Aside0 (rtab .any ops = T)) (hi : ops[i]? = some oi) (hj : ops[j]? = some oj) (hN : oi.dst = some t) (hNj : oj.dst = some tj) (hd : i ∉ ds) (hdj : j ∉ ds)
    (hc : (readyT T.2 (bz n m).toList == [i, j] && (bz n m).toList.set i true == (bz n mi).toList && (bz n m).toList.set j true == (bz n mj).toList) = true)
    {f : FuncId} {fn : Func} {ars : Array Operand} {ts : Array TypeId} (hf : P.funcs[f]? = some fn) (hname : (fn.name == "runtime.NumGoroutine") = false) (hb : fn.body.isSome = true) (hop : oi.op = .call { callee := .value (.func f), args := ars, argTypes := ts }) (args : Array Value)
    (hw : Region.wanted oi (yielded ops a.tmps) = true) (hargs : ars.map a.eval = args) (G : Gs Φ w) (hwj : Region.wanted oj (yielded ops a.tmps) = true) (hrun : (execOp a.eval oj).run P w = .ok (.value (v w.heap.size)) (w.alloc (.cells cs ty (0, 0))))
    (h1 : Calls P f args w fun e w' => ∃ v, e = .returned v ∧ Φ w' ∧ ∀ a', a.put (some t) v = a' → wpAnyLast P .any ops Q Φ ds fuel (bz n mi) a' w')
    (h2 : ∀ g w2, g = w.heap.size → w2.heap[g]? = some (.cells cs ty (0, 0)) → Below w.heap.size w w2 → ∀ a', a.put (some tj) (v g) = a' → wpAnyLast P .any ops Q Φ ds fuel (bz n mj) a' w2) : wpAnyLast P .any ops Q Φ ds (fuel + 1) (bz n m) a w := by
  refine two_ (bz n mi) (bz n mj) hi hj hN hNj (two_of HT.out hc) hd hdj (fun K hK => ?_) (fun K hK => ?_)
  · refine goes_ hf hname hb args hw hN hop hargs (h1.mono fun e w' hh => ?_)
    obtain ⟨v, he, hp, hr⟩ := hh
    exact ⟨v, he, hK.out _ _ hp (fun _ => hr _ rfl)⟩
  · refine value_ hwj hNj hrun ?_
    exact hK.out _ _ (G.go (below_alloc (Below.refl _ _) _)).at_ (fun _ => h2 _ _ rfl (blk_new w _) (below_alloc (Below.refl _ _) _) _ rfl)
/-- A store that is done last. -/
theorem lsD {oi : Oper} (i : Nat) (m' : Nat) (w1 : World) (HT : Aside0 (rtab .any ops = T)) (hi : ops[i]? = some oi) (hN : oi.dst = none) (hd : i ∈ ds) (hc : (readyT T.2 (bz n m).toList == [i] && (bz n m).toList.set i true == (bz n m').toList) = true)
    (hw : Region.wanted oi (yielded ops a.tmps) = true) (hrun : (execOp a.eval oi).run P w = .ok .skip w1) (h : wpAnyLast P .any ops Q Φ ds fuel (bz n m') a w1) : wpAnyLast P .any ops Q Φ ds (fuel + 1) (bz n m) a w := by
  refine last_ (bz n m') hi hN (one_of HT.out hc) hd (fun K hK => ?_)
  exact skip_ hw hN hrun (hK.out _ _ h)
end
/-! ### laws_markAlarmS: function 26 (by hand) -/
def laws_markAlarmS.l0 : Nat → List (S26) → Int → Int → Option (Int × List (S26))
  | 0, _, _, _ => none
  | k + 1, x0, x1, x5 => if x5 < (x0.length : Int) then (if 0 ≤ x5 then ((laws_markLabelS.f k (rd_T26 x0 x5).f0 x1).bind fun b => ((laws_markText.f k (wrap64 ((wrap64 (b.1 + 1)) + 1))).bind fun t => (laws_markAlarmS.l0 k (x0.set (x5 : Int).toNat (⟨b.2, b.1, (wrap64 (b.1 + 1)), t⟩ : S26)) (wrap64 ((wrap64 ((wrap64 (b.1 + 1)) + 1)) + 1)) (wrap64 (x5 + 1))))) else (none)) else (some (x1, x0))
def laws_markAlarmS.f (k : Nat) (l0 : List (S26)) (a1 : Int) : Option (Int × List (S26)) := laws_markAlarmS.l0 k l0 a1 0
set_option maxHeartbeats 8000000 in
set_option maxRecDepth 100000 in
theorem laws_markAlarmS.calls (k : Nat) (P : Nat → Prop) (A0 : Option Addr) (c0 : Nat) (l0 : List (S26)) (a1 : Int) (r1 : Int) (r2 : List (S26)) (w0 w : World) (hB : Below w0.heap.size w0 w) (ho0 : Kd.S k26 26 w w0.heap.size P (.slice A0 l0.length c0) l0) (h : laws_markAlarmS.f k l0 a1 = some (r1, r2)) :
    Calls Try.prog 26 #[.slice A0 l0.length c0, .int .i64 a1] w fun e w' => e = .returned (.int .i64 r1) ∧ Kd.S k26 26 w' w0.heap.size P (.slice A0 l0.length c0) r2 ∧ Below w0.heap.size w0 w' ∧ Kept w w' P := by
  have hu := Try.underlying26
  have HN := Aside0.mk (Eq.refl l0.length)
  obtain ⟨n0, hn0⟩ : ∃ n, n = l0.length := ⟨_, rfl⟩
  have HN0 := Aside0.mk hn0
  rw [← hn0] at ho0 ⊢
  clear hn0
  have HO0 := Aside0.mk ho0
  have HK := Aside0.mk (Kept.refl w P)
  have HB := Aside0.mk hB
  clear hB ho0
  have H' := Aside0.mk (show laws_markAlarmS.l0 k l0 a1 0 = some (r1, r2) from h)
  clear h
  go_enter Try.func26, Try.ntmps26
  go_wp2
  go_loopg [1, 5] k (fun kq v1 v5 w' => ∃ (x0 : List (S26)) (x1 : Int) (x5 : Int), v1 = .int .i64 x1 ∧ v5 = .int .i64 x5 ∧ Aside0 (laws_markAlarmS.l0 kq x0 x1 x5 = some (r1, r2)) ∧ Aside0 (kq ≤ k) ∧ Aside0 (Kd.S k26 26 w' w0.heap.size P (.slice A0 n0 c0) x0) ∧ Aside0 (Kept w w' P) ∧ Aside0 (Below w0.heap.size w0 w'))
  case atStart => exact ⟨l0, a1, 0, rfl, rfl, H', ⟨Nat.le_refl _⟩, HO0, HK, HB⟩
  case round =>
    clear H' HO0 HK HB
    obtain ⟨x0, x1, x5, rfl, rfl, HA, HK1, HO, HK, HB⟩ := hrel
    cases gk with
    | zero => exact absurd HA.out (by simp [laws_markAlarmS.l0])
    | succ k1 =>
      have H := HA.out
      clear HA
      simp only [laws_markAlarmS.l0] at H
      have hlen := (Kd.S_reads' HO.out).1
      by_cases c3 : x5 < (x0.length : Int)
      · rw [if_pos c3] at H
        by_cases c5 : 0 ≤ x5
        · rw [if_pos c5] at H
          obtain ⟨b, HL, H⟩ := Option.bind_eq_some_iff.mp H
          obtain ⟨t, HT, H⟩ := Option.bind_eq_some_iff.mp H
          obtain ⟨b1, b2⟩ := b
          dsimp only at HL HT H
          have AL := Aside0.mk HL
          have AT := Aside0.mk HT
          have H' := Aside0.mk H
          clear HL HT H
          obtain ⟨g, cap, ev, hbg, hgl, _⟩ := Kd.S_form HO.out (by omega)
          injection ev with eA en ec
          subst eA; subst ec
          have hi1 : x5 < (n0 : Int) := by omega
          obtain ⟨oki, c, hcl, hM, hcc, hfr, hoki, hH⟩ := Kd.S_elem HO.out z26 x5 c5 hi1
          obtain ⟨v, rfl, hR⟩ := k26_openM hM
          have hz0 : wr.cell? ⟨g, (x5 : Int).toNat * 4, none⟩ = some v := hcc 0 _ rfl
          obtain ⟨Av, cv, ev⟩ := Kd.R_slice hR
          subst ev
          have HH := Aside0.mk hH
          have HR := Aside0.mk (Kd.R_tight rfl hR)
          have HRok := Aside0.mk hR.1
          have HOK := Aside0.mk hoki
          have HGP := Aside0.mk (show P g from (Kd.S_R HO.out).1 g (by simp [Value.ownBlock]))
          have HGB := Aside0.mk hbg
          have HN1 := Aside0.mk hlen
          have HI := Aside0.mk hi1
          have HC5 := Aside0.mk c5
          have HCC := Aside0.mk hcc
          have HFR := Aside0.mk hfr
          have p5 : (0 ≤ x5) = True := eq_true c5
          have q5 : (x5 < (n0 : Int)) = True := eq_true hi1
          clear hH hR hM hoki hgl hbg hlen hcc hfr hcl HO en
          have c5b : decide (0 ≤ x5) = true := decide_eq_true c5
          have c3b : decide (x5 < (n0 : Int)) = true := decide_eq_true hi1
          clear c3 c5 hi1
          go_wp2_with (first | ((with_reducible refine gate_callee (f := 65) rfl ?_); refine goesL_ (some 18) rfl rfl Try.func65 (by kernel_rfl) rfl #[.slice Av (rd_T26 x0 x5).f0.length cv, .int .i64 x1] rfl (by (try simp only [List.map_toArray, List.map_cons, List.map_nil]); first | done | rfl) ?_; refine (laws_markLabelS.calls k1 (fun k_ => some k_ = (Value.slice Av (rd_T26 x0 x5).f0.length cv).ownBlock) (.slice Av (rd_T26 x0 x5).f0.length cv) (rd_T26 x0 x5).f0 x1 b1 b2 w0 _ HB.out HR.out AL.out).mono ?_; rintro e w1 ⟨rfl, hy, hb, hk⟩; refine ⟨_, rfl, ?_⟩; have HB1 := Aside0.mk hb; have HS1 := Aside0.mk (fun k_ (h_ : some k_ = (Value.slice Av (rd_T26 x0 x5).f0.length cv).ownBlock) => HRok.out k_ h_.symm); have HK2 := Aside0.mk (Kept.then_ HK.out hk (fun k_ hk_ => Or.inl (HOK.out k_ (HS1.out k_ hk_)).1)); have HH1 := Aside0.mk (Kd.H_kept HH.out hk (fun k_ _ hn hs => hn (HS1.out k_ hs))); have HR1 := Aside0.mk (Kd.R_reok (ok := oki) rfl hy (fun k_ h_ => HS1.out k_ h_.symm)); have HG1 := Aside0.mk (fun hs => (HOK.out g (HS1.out g hs)).2 rfl); have HCC1 := Aside0.mk (fun j u (hj : _) => cell_kept (HCC.out j u hj) hk HG1.out); have e0 : w1.cell? ⟨g, (x5 : Int).toNat * 4, none⟩ = some (.slice Av (rd_T26 x0 x5).f0.length cv) := cell_kept (HCC.out 0 _ rfl) hk HG1.out; have e1 : w1.cell? ⟨g, (x5 : Int).toNat * 4 + 1, none⟩ = some (.int .i64 (rd_T26 x0 x5).f1) := cell_kept (HCC.out 1 _ rfl) hk HG1.out; have e2 : w1.cell? ⟨g, (x5 : Int).toNat * 4 + 2, none⟩ = some (.int .i64 (rd_T26 x0 x5).f2) := cell_kept (HCC.out 2 _ rfl) hk HG1.out; have e3 : w1.cell? ⟨g, (x5 : Int).toNat * 4 + 3, none⟩ = some (.string (rd_T26 x0 x5).f3) := cell_kept (HCC.out 3 _ rfl) hk HG1.out; have hfr1 : ∀ j, w1.frozen? ⟨g, (x5 : Int).toNat * 4 + j, none⟩ = false := (fun j => by have hb_ := hk.2 g (World.block_lt_of_cell? _ _ (HCC.out 0 _ rfl)) HG1.out; have hf_ := HFR.out j; simp only [World.frozen?, hb_] at hf_ ⊢; exact hf_); have f1 := hfr1 1; have f2 := hfr1 2; clear hfr1 hy hb hk hz0))
          refine (laws_markText.calls k1 (wrap64 (wrap64 (b1 + 1) + 1)) t _ AT.out).mono ?_
          rintro e w2 ⟨rfl, hb⟩
          have h1 : Kd.H k26 26 (w1.setCell ⟨g, (x5 : Int).toNat * 4 + 1, none⟩ (.int .i64 b1)) w0.heap.size P (.slice (some ⟨g, 0, none⟩) n0 c0) x0 x5 oki [.slice Av (rd_T26 x0 x5).f0.length cv, .int .i64 b1, .int .i64 (rd_T26 x0 x5).f2, .string (rd_T26 x0 x5).f3] := (Kd.H_seg HH1.out HC5.out HI.out (seg := [.int .i64 b1]) (j := 1) (show 1 + 1 ≤ 4 by decide) (fun q hq => by rw [List.mem_singleton.1 hq]; rfl)).1
          have h2 : Kd.H k26 26 ((w1.setCell ⟨g, (x5 : Int).toNat * 4 + 1, none⟩ (.int .i64 b1)).setCell ⟨g, (x5 : Int).toNat * 4 + 2, none⟩ (.int .i64 (wrap64 (b1 + 1)))) w0.heap.size P (.slice (some ⟨g, 0, none⟩) n0 c0) x0 x5 oki [.slice Av (rd_T26 x0 x5).f0.length cv, .int .i64 b1, .int .i64 (wrap64 (b1 + 1)), .string (rd_T26 x0 x5).f3] := (Kd.H_seg h1 HC5.out HI.out (seg := [.int .i64 (wrap64 (b1 + 1))]) (j := 2) (show 2 + 1 ≤ 4 by decide) (fun q hq => by rw [List.mem_singleton.1 hq]; rfl)).1
          have HH2 := Aside0.mk (Kd.H_below h2 hb)
          have HR2 := Aside0.mk (Kd.R_below (Kd.R_far (p := ⟨g, (x5 : Int).toNat * 4 + 2, none⟩) (Kd.R_far (p := ⟨g, (x5 : Int).toNat * 4 + 1, none⟩) HR1.out (fun k_ hk_ => (HOK.out k_ hk_).2) (.int .i64 b1)) (fun k_ hk_ => (HOK.out k_ hk_).2) (.int .i64 (wrap64 (b1 + 1)))) hb)
          have HB2 := Aside0.mk (below_step (below_set (below_set HB1.out HGB.out) HGB.out) hb)
          have HK3 := Aside0.mk (Kept.below (Kept.setCell (Kept.setCell HK2.out (p := ⟨g, (x5 : Int).toNat * 4 + 1, none⟩) (Or.inl HGP.out) _) (p := ⟨g, (x5 : Int).toNat * 4 + 2, none⟩) (Or.inl HGP.out) _) hb)
          obtain ⟨_, _, _, _, _, hcc2, _⟩ := Kd.H_raw HH2.out HC5.out HI.out
          have e3' : w2.cell? ⟨g, (x5 : Int).toNat * 4 + 3, none⟩ = some (.string (rd_T26 x0 x5).f3) := hcc2 3 _ rfl
          have f3' : w2.frozen? ⟨g, (x5 : Int).toNat * 4 + 3, none⟩ = false := (by obtain ⟨_, f_, hRg⟩ := HH2.out; obtain ⟨g_, cap_, ev_, _, _, cells_, hbk_⟩ := Kd.R_form hRg (by rw [List.length_zipIdx]; have := HN1.out; have := HI.out; have := HC5.out; omega); injection ev_ with ea_; injection ea_ with ea_; injection ea_ with ea_; subst ea_; exact blk_frozen hbk_ _)
          clear hcc2 h1 h2 hb
          go_wp2
          go_roundg k1
          case measure => have := HK1.out; omega
          case rel =>
            have h3 : Kd.H k26 26 (w2.setCell ⟨g, (x5 : Int).toNat * 4 + 3, none⟩ (.string t)) w0.heap.size P (.slice (some ⟨g, 0, none⟩) n0 c0) x0 x5 oki [.slice Av (rd_T26 x0 x5).f0.length cv, .int .i64 b1, .int .i64 (wrap64 (b1 + 1)), .string t] := (Kd.H_seg HH2.out HC5.out HI.out (seg := [.string t]) (j := 3) (show 3 + 1 ≤ 4 by decide) (fun q hq => by rw [List.mem_singleton.1 hq]; rfl)).1
            have h4 := Kd.H_back h3 (x' := (⟨b2, b1, wrap64 (b1 + 1), t⟩ : S26)) (k26_mkM _ _ oki (⟨b2, b1, wrap64 (b1 + 1), t⟩ : S26) (v0 := .slice Av (rd_T26 x0 x5).f0.length cv) (Kd.R_far (p := ⟨g, (x5 : Int).toNat * 4 + 3, none⟩) HR2.out (fun k_ hk_ => (HOK.out k_ hk_).2) (.string t))) (fun _ hk_ => hk_)
            exact ⟨_, _, _, (by first | rfl | (simp; done) | (simp [*]; done)), (by first | rfl | (simp; done) | (simp [*]; done)), H', ⟨by have := HK1.out; omega⟩, ⟨h4⟩, ⟨Kept.setCell HK3.out (p := ⟨g, (x5 : Int).toNat * 4 + 3, none⟩) (Or.inl HGP.out) _⟩, ⟨below_set HB2.out HGB.out⟩⟩
        · rw [if_neg c5] at H
          exact absurd H (by simp)
      · rw [if_neg c3] at H
        simp only [Option.some.injEq, Prod.mk.injEq] at H
        obtain ⟨rfl, rfl⟩ := H
        have c3b : decide (x5 < (n0 : Int)) = false := decide_eq_false (by omega)
        clear c3 hlen
        go_wp2
        go_ret
        exact ⟨rfl, HO.out, HB.out, HK.out⟩
/-! ### laws_markChain: function 25 (by hand) -/
def laws_markChain.f (k : Nat) (a0_0 : Int) (l0_1 : List (S26)) (a1 : Int) : Option (Int × List (S26)) := laws_markAlarmS.f k l0_1 a1
set_option maxHeartbeats 8000000 in
set_option maxRecDepth 100000 in
theorem laws_markChain.calls (k : Nat) (P : Nat → Prop) (a0_0 : Int) (A0_1 : Option Addr) (c0_1 : Nat) (l0_1 : List (S26)) (a1 : Int) (r1 : Int) (r2 : List (S26)) (w0 w : World) (hB : Below w0.heap.size w0 w) (ho0 : Kd.S k26 26 w w0.heap.size P (.slice A0_1 l0_1.length c0_1) l0_1) (h : laws_markChain.f k a0_0 l0_1 a1 = some (r1, r2)) :
    Calls Try.prog 25 #[.agg #[.int .i64 a0_0, .slice A0_1 l0_1.length c0_1], .int .i64 a1] w fun e w' => e = .returned (.int .i64 r1) ∧ Kd.S k26 26 w' w0.heap.size P (.slice A0_1 l0_1.length c0_1) r2 ∧ Below w0.heap.size w0 w' ∧ Kept w w' P := by
  have hu := Try.underlying39
  have HO0 := aM ho0
  have HB := aM hB
  have HF := aM h
  clear ho0 hB h
  go_enter Try.func25, Try.ntmps25
  go_upto_region 1 with (first | ((with_reducible refine gate_dst (N := 2) rfl ?_); refine box_event ?hg (N := 2) ?hd (cs := #[.int .i64 a0_0, .slice A0_1 l0_1.length c0_1]) (t := 39) ?hr ?_; (case hd => rfl); (case hg => rfl); (case hr => first | (go_simp; done) | (go_simp; rfl)); intro g2 hg w2 hbox hb; have HO1 := aM (Kd.S_below HO0.out hb); have HB1 := aM (below_step HB.out hb); have HK1 := aM (Kept.below (Kept.refl w P) hb); have z0 : w2.cell? ⟨g2, 0, none⟩ = some (.int .i64 a0_0) := (blk_cell hbox 0).trans rfl; have z1 : w2.cell? ⟨g2, 1, none⟩ = some (.slice A0_1 l0_1.length c0_1) := (blk_cell hbox 1).trans rfl; clear hg hbox hb HO0 HB))
  go_wp2_with (first | ((with_reducible refine gate_callee (f := 26) rfl ?_); refine goesL_ (some 8) rfl rfl Try.func26 (by kernel_rfl) rfl #[.slice A0_1 l0_1.length c0_1, .int .i64 a1] rfl (by (try simp only [List.map_toArray, List.map_cons, List.map_nil]); first | done | rfl) ?_; refine (laws_markAlarmS.calls k P _ _ l0_1 a1 r1 r2 w0 _ HB1.out HO1.out HF.out).mono ?_; rintro e w3 ⟨rfl, hy, hb, hk⟩; refine ⟨_, rfl, ?_⟩; have HY := aM hy; have HB2 := aM hb; have HK2 := aM (Kept.then_ HK1.out hk (fun k_ hk_ => Or.inl hk_)); clear hy hb hk z0 z1))
  try go_wp2
  go_ret
  exact ⟨rfl, HY.out, HB2.out, HK2.out⟩
/-! ### impl.DropOver: function 22 (by hand) -/
def impl_DropOver2.go (a1 : Int) : List (S26) → List (S26) → List (S26) → Option (List (S26) × List (S26))
  | [], out, gone => some (out, gone)
  | a :: r, out, gone => (impl_Over.f a.f0 a.f1 a.f2 a.f3 a1).bind fun b => (impl_copyAlarm.f a.f0 a.f1 a.f2 a.f3).bind fun c => if b = true then (if gone.length < 549755813888 then impl_DropOver2.go a1 r out (gone ++ [(⟨c.1, c.2.1, c.2.2.1, c.2.2.2⟩ : S26)]) else none) else (if out.length < 549755813888 then impl_DropOver2.go a1 r (out ++ [(⟨c.1, c.2.1, c.2.2.1, c.2.2.2⟩ : S26)]) gone else none)
def impl_DropOver2.f (k : Nat) (a0_0 : Int) (l0_1 : List (S26)) (a1 : Int) : Option (Int × List (S26) × List (S26)) := (impl_DropOver2.go a1 l0_1 [] []).bind fun p => some (a0_0, p.1, p.2)
theorem drop_at {α : Type} (z : α) (l : List α) (i : Nat) (h : i < l.length) : l.drop i = l.getD i z :: l.drop (i + 1) := by
  rw [List.drop_eq_getElem_cons h, List.getD_eq_getElem?_getD, List.getElem?_eq_getElem h]; rfl
def laws_DropOver_.T8 : Bool × List (List Nat × List Nat) := (true, [([], []), ([0], [0]), ([], []), ([2], [2]), ([3], [3]), ([1, 4, 3], [1, 4]), ([0, 1, 2, 3, 4, 5], []), ([6, 5, 5, 0, 1, 2, 3, 4, 5], [5, 6])])
def laws_DropOver_.B8 : List Nat := [0, 1, 0, 4, 12, 31, 63, 127]
theorem laws_DropOver_.tab8 : rtab .any (opsOf Try.f22 8) = laws_DropOver_.T8 := by kernel_rfl
theorem laws_DropOver_.bits8 : waitsOk laws_DropOver_.T8.2 laws_DropOver_.B8 = true := by kernel_rfl
set_option maxHeartbeats 16000000 in
set_option maxRecDepth 100000 in
theorem impl_DropOver2.calls (k : Nat) (a0_0 : Int) (A0_1 : Option Addr) (c0_1 : Nat) (l0_1 : List (S26)) (a1 : Int) (r1 : Int) (r2 : List (S26)) (r3 : List (S26)) (w : World) (hr0_1 : Kd.C k26 w A0_1 l0_1.length l0_1) (hc0_1 : l0_1.length ≤ c0_1) (h : impl_DropOver2.f k a0_0 l0_1 a1 = some (r1, r2, r3)) :
    Calls Try.prog 22 #[.agg #[.int .i64 a0_0, .slice A0_1 l0_1.length c0_1], .int .i64 a1] w fun e w' => ∃ (v1_ v2_ : Value) (P : Nat → Prop), e = .returned (.tuple #[.agg #[.int .i64 r1, v1_], v2_]) ∧ Kd.S k26 26 w' w.heap.size (fun k_ => P k_) v1_ r2 ∧ Kd.S k26 26 w' w.heap.size (fun k_ => ¬ P k_) v2_ r3 ∧ Below w.heap.size w w' := by
 obtain ⟨⟨o_, g_⟩, hx, h⟩ := Option.bind_eq_some_iff.mp h
 dsimp only at hx h
 simp only [Option.some.injEq, Prod.mk.injEq] at h
 obtain ⟨rfl, rfl, rfl⟩ := h
 have HX := aM (show impl_DropOver2.go a1 (l0_1.drop 0) [] [] = some (o_, g_) from hx)
 clear hx
 have Hc0_1 := aM hc0_1
 have HR0_1 := aM hr0_1
 have G := (Gs.below w).add (Gs.top (Nat.le_refl w.heap.size))
 clear hc0_1 hr0_1
 go_enter Try.func22, Try.ntmps22
 go_upto_region 1 with (first | ((with_reducible refine gate_dst (N := 2) rfl ?_); refine box_event ?hg (N := 2) ?hd (cs := #[.int .i64 a0_0, .slice A0_1 l0_1.length c0_1]) (t := 39) ?hr ?_; (case hd => rfl); (case hg => rfl); (case hr => first | (go_simp; done) | (go_simp; rfl)); intro g2 hg w2 hbox hb; have Hg2 := aM (show w.heap.size ≤ g2 from hg ▸ G.at_.2); have G1 := (((G.go hb).add (Gs.ofBox2 hbox)).add (Gs.top (Nat.succ_le_of_lt (blk_lt hbox)))); clear hb hbox hg G; have G := G1; clear G1) | ((with_reducible refine gate_dst (N := 4) rfl ?_); refine box_event ?hg (N := 4) ?hd (cs := #[.int .i64 0, .slice none 0 0]) (t := 39) ?hr ?_; (case hd => rfl); (case hg => rfl); (case hr => first | (go_simp; done) | (go_simp; rfl)); intro g4 hg w2 hbox hb; have Hg4 := aM (show g2 + 1 ≤ g4 from hg ▸ G.at_.2); have G1 := (((G.go hb).add (Gs.blk hbox)).add (Gs.top (Nat.succ_le_of_lt (blk_lt hbox)))); clear hb hbox hg G; have G := G1; clear G1))
 obtain ⟨zg2_0, zg2_1⟩ := G.at_.1.1.1.2
 go_upto_region 2 with (first | ((with_reducible refine gate_dst (N := 6) rfl ?_); refine box_event ?hg (N := 6) ?hd (cs := #[.int .i64 0, .slice none 0 0]) (t := 39) ?hr ?_; (case hd => rfl); (case hg => rfl); (case hr => first | (go_simp; done) | (go_simp; rfl)); intro g6 hg w2 hbox hb; have Hg6 := aM (show g4 + 1 ≤ g6 from hg ▸ G.at_.2); have HB_g6 := aM hb; have HE_g6 := aM hg; have BK_g6 := aM hbox; have zg6_0 := cz2_0 ⟨hbox⟩; have yg6_0 := blk_frozen hbox 0; have zg6_1 := cz2_1 ⟨hbox⟩; have yg6_1 := blk_frozen hbox 1; clear hb hbox hg))
 (try clear zg2_0)
 (try clear zg2_1)
 (try clear zg6_0)
 (try clear yg6_0)
 (try clear zg6_1)
 (try clear yg6_1)
 have G1 := ((Gs.put2 (.int .i64 a0_0) (.slice none 0 0) G HB_g6 HE_g6 BK_g6).add (Gs.blk (set2_blk BK_g6.out))).add (Gs.top (Nat.succ_le_of_lt (blk_lt (set2_blk BK_g6.out))))
 clear G; have G := G1; clear G1
 generalize ((w2.setCell ⟨g6, 0, none⟩ (.int .i64 a0_0)).setCell ⟨g6, 1, none⟩ (.slice none 0 0)) = w3 at G ⊢
 clear HB_g6 HE_g6 BK_g6
 go_upto_region 3 with (fail)
 obtain ⟨zg2_0, zg2_1⟩ := G.at_.1.1.1.1.1.1.2
 have H4 := aM G.at_.1.1.1.1.2
 have H6 := aM G.at_.1.2
 have HB := aM G.at_.1.1.1.1.1.1.1.1
 clear G
 have HG4 := aM (show w.heap.size ≤ g4 from by have a_ := Hg2.out; have b_ := Hg4.out; omega)
 have HG6 := aM (show w.heap.size ≤ g6 from by have a_ := Hg2.out; have b_ := Hg4.out; have c_ := Hg6.out; omega)
 have N46 := aM (show g4 ≠ g6 from by have a_ := Hg4.out; have b_ := Hg6.out; omega)
 obtain ⟨n0, hn0⟩ : ∃ n, n = l0_1.length := ⟨_, rfl⟩
 have HN0 := aM hn0
 have hmx : n0 ≤ 9223372036854775807 := by rw [hn0]; exact HR0_1.out.2.1
 clear hn0
 go_wp2
 try clear zg2_0 zg2_1
 go_loopg [7, 16] l0_1.length (fun kx v7 v16 w' => ∃ (i : Nat) (out gone : List S26) (Ao Ag : Option Addr) (co cg : Nat) (P : Nat → Prop), v7 = .slice Ag gone.length cg ∧ v16 = .int .i64 (i : Int) ∧ i ≤ l0_1.length ∧ l0_1.length - i ≤ kx ∧ Aside0 (impl_DropOver2.go a1 (l0_1.drop i) out gone = some (o_, g_)) ∧ Aside0 (w'.heap[g4]? = some (.cells #[.int .i64 0, .slice none 0 0] 39 (0, 0))) ∧ Aside0 (w'.heap[g6]? = some (.cells #[.int .i64 a0_0, .slice Ao out.length co] 39 (0, 0))) ∧ Aside0 (Kd.S k26 26 w' w.heap.size (fun k_ => P k_) (.slice Ao out.length co) out) ∧ Aside0 (Kd.S k26 26 w' w.heap.size (fun k_ => ¬ P k_) (.slice Ag gone.length cg) gone) ∧ Aside0 (Below w.heap.size w w'))
 case atStart => exact ⟨0, [], [], none, none, 0, 0, fun _ => True, rfl, rfl, Nat.zero_le _, Nat.le_refl _, HX, H4, H6, ⟨Kd.S_nil _ _ _ _ _⟩, ⟨Kd.S_nil _ _ _ _ _⟩, HB⟩
 case round =>
  clear HX H4 H6 HB
  obtain ⟨i, out, gone, Ao, Ag, co, cg, P, rfl, rfl, hin, hkx, HG, H4, H6, HO, HQ, HB⟩ := hrel
  by_cases hlt : i < l0_1.length
  · skip
    have hmx2 : l0_1.length ≤ 9223372036854775807 := HR0_1.out.2.1
    have H := HG.out
    rw [drop_at z26 l0_1 i hlt] at H
    simp only [impl_DropOver2.go] at H
    obtain ⟨b, hb0, H⟩ := Option.bind_eq_some_iff.mp H
    obtain ⟨⟨lx, sx, ex, nx⟩, hc0, H⟩ := Option.bind_eq_some_iff.mp H
    dsimp only at hb0 hc0 H
    have AB := aM (show impl_Over.f (rd_T26 l0_1 (i : Int)).f0 (rd_T26 l0_1 (i : Int)).f1 (rd_T26 l0_1 (i : Int)).f2 (rd_T26 l0_1 (i : Int)).f3 a1 = some b from hb0)
    have AC := aM (show impl_copyAlarm.f (rd_T26 l0_1 (i : Int)).f0 (rd_T26 l0_1 (i : Int)).f1 (rd_T26 l0_1 (i : Int)).f2 (rd_T26 l0_1 (i : Int)).f3 = some (lx, sx, ex, nx) from hc0)
    clear hb0 hc0 HG
    obtain ⟨ad, Aa, ca, rfl, hx0, hx1, hx2, hx3, hla, hCa⟩ := at_T26 HR0_1.out (i : Int) (by omega) (by omega)
    simp only [Int.toNat_natCast] at hx0 hx1 hx2 hx3
    replace hx0 := pw_cell_below HB.out hx0
    replace hx1 := pw_cell_below HB.out hx1
    replace hx2 := pw_cell_below HB.out hx2
    replace hx3 := pw_cell_below HB.out hx3
    have HCw := aM hCa
    have HCa := aM (show Kd.C k89 wr Aa (rd_T26 l0_1 (i : Int)).f0.length (rd_T26 l0_1 (i : Int)).f0 from Kd.C_below hCa HB.out)
    have HLa := aM (show (rd_T26 l0_1 (i : Int)).f0.length ≤ ca from hla)
    clear hCa hla
    have hltb : decide ((i : Int) < (l0_1.length : Int)) = true := decide_eq_true (by omega)
    have p0t : (0 ≤ (i : Int)) = True := eq_true (by omega)
    have q0t : ((i : Int) < (l0_1.length : Int)) = True := eq_true (by omega)
    have q1t : (i < l0_1.length) = True := eq_true hlt
    go_upto_region 6 with (first | ((with_reducible refine gate_dst (N := 9) rfl ?_); refine box_event ?hg (N := 9) ?hd (cs := #[.slice none 0 0, .int .i64 0, .int .i64 0, .string (⟨#[]⟩ : ByteArray)]) (t := 26) ?hr ?_; (case hd => rfl); (case hg => rfl); (case hr => first | (go_simp; done) | (go_simp; rfl)); intro g9 hg w2 hbox hb; have HE := aM hg; have HV := aM hb; have HBK := aM hbox; have q0 := cz4_0 HBK; have q1 := cz4_1 HBK; have q2 := cz4_2 HBK; have q3 := cz4_3 HBK; have y0 := blk_frozen hbox 0; have y1 := blk_frozen hbox 1; have y2 := blk_frozen hbox 2; have y3 := blk_frozen hbox 3; clear hg hb hbox hx0 hx1 hx2 hx3))
    have hE := set4_below (b0 := (.slice Aa (rd_T26 l0_1 (i : Int)).f0.length ca)) (b1 := (.int .i64 (rd_T26 l0_1 (i : Int)).f1)) (b2 := (.int .i64 (rd_T26 l0_1 (i : Int)).f2)) (b3 := (.string (rd_T26 l0_1 (i : Int)).f3)) HV.out (Nat.le_of_eq HE.out.symm)
    have B9 := aM (set4_blk (b0 := (.slice Aa (rd_T26 l0_1 (i : Int)).f0.length ca)) (b1 := (.int .i64 (rd_T26 l0_1 (i : Int)).f1)) (b2 := (.int .i64 (rd_T26 l0_1 (i : Int)).f2)) (b3 := (.string (rd_T26 l0_1 (i : Int)).f3)) HBK.out)
    have HO1 := aM (Kd.S_below HO.out hE)
    have HQ1 := aM (Kd.S_below HQ.out hE)
    have H41 := aM (blk_below H4.out hE)
    have H61 := aM (blk_below H6.out hE)
    have HC1 := aM (Kd.C_below HCa.out hE)
    have HB1 := aM (below_step HB.out hE)
    clear hE HE HV HBK q0 q1 q2 q3 y0 y1 y2 y3 HO HQ H4 H6 HCa HB
    generalize ((((w2.setCell ⟨g9, 0, none⟩ (.slice Aa (rd_T26 l0_1 (i : Int)).f0.length ca)).setCell ⟨g9, 1, none⟩ (.int .i64 (rd_T26 l0_1 (i : Int)).f1)).setCell ⟨g9, 2, none⟩ (.int .i64 (rd_T26 l0_1 (i : Int)).f2)).setCell ⟨g9, 3, none⟩ (.string (rd_T26 l0_1 (i : Int)).f3)) = w3 at B9 HO1 HQ1 H41 H61 HC1 HB1 ⊢
    have z0 : w3.cell? ⟨g9, 0, none⟩ = some (.slice Aa (rd_T26 l0_1 (i : Int)).f0.length ca) := (blk_cell B9.out 0).trans rfl
    have z1 : w3.cell? ⟨g9, 1, none⟩ = some (.int .i64 (rd_T26 l0_1 (i : Int)).f1) := (blk_cell B9.out 1).trans rfl
    have z2 : w3.cell? ⟨g9, 2, none⟩ = some (.int .i64 (rd_T26 l0_1 (i : Int)).f2) := (blk_cell B9.out 2).trans rfl
    have z3 : w3.cell? ⟨g9, 3, none⟩ = some (.string (rd_T26 l0_1 (i : Int)).f3) := (blk_cell B9.out 3).trans rfl
    cases b with
    | true =>
     rw [if_pos rfl] at H
     by_cases hN : gone.length < 549755813888
     · skip
       rw [if_pos hN] at H
       have H' := aM H
       have LM := aM hN
       clear H hN
       go_upto_region 7 with (first | ((with_reducible refine gate_callee (f := 64) rfl ?_); refine goesL_ (some 22) rfl rfl Try.func64 (by kernel_rfl) rfl #[.agg #[.slice Aa (rd_T26 l0_1 (i : Int)).f0.length ca, .int .i64 (rd_T26 l0_1 (i : Int)).f1, .int .i64 (rd_T26 l0_1 (i : Int)).f2, .string (rd_T26 l0_1 (i : Int)).f3], .int .i64 a1] rfl (by (try simp only [List.map_toArray, List.map_cons, List.map_nil]); first | done | rfl) ?_; refine (impl_Over.calls _ _ (rd_T26 l0_1 (i : Int)).f0 (rd_T26 l0_1 (i : Int)).f1 (rd_T26 l0_1 (i : Int)).f2 (rd_T26 l0_1 (i : Int)).f3 a1 true _ HC1.out HLa.out AB.out).mono ?_; rintro e w4 ⟨rfl, hb⟩; refine ⟨_, rfl, ?_⟩; have hd := hb; have HO2 := aM (Kd.S_below HO1.out hd); have HQ2 := aM (Kd.S_below HQ1.out hd); have H42 := aM (blk_below H41.out hd); have H62 := aM (blk_below H61.out hd); have HC2 := aM (Kd.C_below HC1.out hd); have HB2 := aM (below_step HB1.out hd); have B92 := aM (blk_below B9.out hd); clear hb hd HO1 HQ1 H41 H61 HC1 HB1 B9 z0 z1 z2 z3))
       have z0 : w4.cell? ⟨g9, 0, none⟩ = some (.slice Aa (rd_T26 l0_1 (i : Int)).f0.length ca) := (blk_cell B92.out 0).trans rfl
       have z1 : w4.cell? ⟨g9, 1, none⟩ = some (.int .i64 (rd_T26 l0_1 (i : Int)).f1) := (blk_cell B92.out 1).trans rfl
       have z2 : w4.cell? ⟨g9, 2, none⟩ = some (.int .i64 (rd_T26 l0_1 (i : Int)).f2) := (blk_cell B92.out 2).trans rfl
       have z3 : w4.cell? ⟨g9, 3, none⟩ = some (.string (rd_T26 l0_1 (i : Int)).f3) := (blk_cell B92.out 3).trans rfl
       go_wp2_with (first | ((with_reducible refine gate_callee (f := 57) rfl ?_); refine goesL_ (some 25) rfl rfl Try.func57 (by kernel_rfl) rfl #[.agg #[.slice Aa (rd_T26 l0_1 (i : Int)).f0.length ca, .int .i64 (rd_T26 l0_1 (i : Int)).f1, .int .i64 (rd_T26 l0_1 (i : Int)).f2, .string (rd_T26 l0_1 (i : Int)).f3]] rfl (by (try simp only [List.map_toArray, List.map_cons, List.map_nil]); first | done | rfl) ?_; refine (impl_copyAlarm.calls _ _ (rd_T26 l0_1 (i : Int)).f0 (rd_T26 l0_1 (i : Int)).f1 (rd_T26 l0_1 (i : Int)).f2 (rd_T26 l0_1 (i : Int)).f3 lx sx ex nx _ HC2.out HLa.out AC.out).mono ?_; rintro e w5 ⟨v5_, rfl, ho, hb⟩; obtain ⟨An, cn, rfl, _, _⟩ := Kd.R_reads ho; refine ⟨_, rfl, ?_⟩; have HO3 := aM (Kd.S_bound HO2.out); have HQ3 := aM (Kd.S_bound HQ2.out); have HSZ := aM hb.size; have HO4 := aM (Kd.S_below HO3.out hb); have HQ4 := aM (Kd.S_below HQ3.out hb); have HX := aM (Kd.R_lower (Kd.R_bound ho) HB2.out.size); have H43 := aM (blk_below H42.out hb); have H63 := aM (blk_below H62.out hb); have HB3 := aM (below_step HB2.out hb); clear ho hb HO2 HQ2 HO3 HQ3 H42 H62 HC2 HB2 B92 z0 z1 z2 z3) | ((with_reducible refine gate_builtin (b := .append) (xs := #[.tmp 23, .tmp 26]) rfl ?_); at_builtin; refine Kd.S_append k26 (w0 := w) w.heap.size rfl (.tmp 23) (.tmp 26) 37 26 (.agg #[(.slice none 0 0), (.int .i64 0), (.int .i64 0), (.string ⟨#[]⟩)]) 56 rfl Try.underlying37 info26 rfl (by decide) (by omega) (.slice Ag gone.length cg) gone (⟨lx, sx, ex, nx⟩ : S26) [.slice An lx.length cn, .int .i64 sx, .int .i64 ex, .string nx] (fun k_ => ¬ (P k_ ∧ k_ < w4.heap.size)) (fun k_ => w4.heap.size ≤ k_) rfl rfl ?aP ?aQ ?aF ?aO HB3.out HB3.out.size ?aL ?_; (case aP => exact k26_mkM _ _ _ (⟨lx, sx, ex, nx⟩ : S26) (v0 := .slice An lx.length cn) (Kd.R_mono HX.out (fun k_ h_ => h_.2.1))); (case aQ => exact fun k_ hk_ => ⟨fun h_ => absurd h_.2 (by omega), fun e_ => by have q_ := (Kd.S_R HQ4.out).1 k_ e_.symm; have := q_.2.2.1; omega⟩); (case aF => exact fun k_ hk_ h_ => by have := HSZ.out; omega); (case aO => exact Kd.S_mono HQ4.out (fun k_ hk_ => ⟨fun h_ => hk_.1 h_.1, by have := hk_.2.2.1; omega⟩)); (case aL => have := LM.out; omega); intro v39 w6 ho hb hg hat; have hOO := (Kd.S_R HO4.out).1; have HQ6 := aM ho; have HB6 := aM hb; have HO6 := aM (Kd.S_grown (Kd.S_mono HO4.out (fun k_ hk_ => (⟨⟨hk_.1, hk_.2.2.1⟩, fun e_ => ((Kd.S_R HQ4.out).1 k_ e_.symm).1 hk_.1⟩ : (P k_ ∧ k_ < w4.heap.size) ∧ some k_ ≠ (Value.slice Ag gone.length cg).ownBlock))) hg (fun k_ h_ => h_.2)); have H46 := aM ((hg.block g4 (blk_lt H43.out) (Kd.S_ne HQ4.out H43.out (by decide))).trans H43.out); have H66 := aM ((hg.block g6 (blk_lt H63.out) (Kd.S_ne HQ4.out H63.out (by decide))).trans H63.out); clear ho hb hg hat hOO))
       obtain ⟨A6, c6, e6⟩ := Kd.S_slice HQ6.out
       subst e6
       go_roundg (l0_1.length - (i + 1))
       case measure => omega
       case rel => exact ⟨i + 1, out, gone ++ [(⟨lx, sx, ex, nx⟩ : S26)], Ao, A6, co, c6, fun k_ => P k_ ∧ k_ < w4.heap.size, rfl, by go_num, by omega, Nat.le_refl _, H', H46, H66, ⟨Kd.S_mono HO6.out (fun k_ h_ => h_.1)⟩, HQ6, HB6⟩
     · rw [if_neg hN] at H; cases H
    | false =>
     rw [if_neg (by decide)] at H
     by_cases hN : out.length < 549755813888
     · skip
       rw [if_pos hN] at H
       have H' := aM H
       have LM := aM hN
       clear H hN
       go_upto_region 8 with (first | ((with_reducible refine gate_callee (f := 64) rfl ?_); refine goesL_ (some 22) rfl rfl Try.func64 (by kernel_rfl) rfl #[.agg #[.slice Aa (rd_T26 l0_1 (i : Int)).f0.length ca, .int .i64 (rd_T26 l0_1 (i : Int)).f1, .int .i64 (rd_T26 l0_1 (i : Int)).f2, .string (rd_T26 l0_1 (i : Int)).f3], .int .i64 a1] rfl (by (try simp only [List.map_toArray, List.map_cons, List.map_nil]); first | done | rfl) ?_; refine (impl_Over.calls _ _ (rd_T26 l0_1 (i : Int)).f0 (rd_T26 l0_1 (i : Int)).f1 (rd_T26 l0_1 (i : Int)).f2 (rd_T26 l0_1 (i : Int)).f3 a1 false _ HC1.out HLa.out AB.out).mono ?_; rintro e w4 ⟨rfl, hb⟩; refine ⟨_, rfl, ?_⟩; have hd := hb; have HO2 := aM (Kd.S_below HO1.out hd); have HQ2 := aM (Kd.S_below HQ1.out hd); have H42 := aM (blk_below H41.out hd); have H62 := aM (blk_below H61.out hd); have HC2 := aM (Kd.C_below HC1.out hd); have HB2 := aM (below_step HB1.out hd); have B92 := aM (blk_below B9.out hd); clear hb hd HO1 HQ1 H41 H61 HC1 HB1 B9 z0 z1 z2 z3))
       have HO3 := aM (Kd.S_bound HO2.out)
       have HQ3 := aM (Kd.S_bound HQ2.out)
       have G := ((((Gs.bel HB2.out).add (Gs.top (Nat.le_refl w4.heap.size))).add (Gs.ofBox4 B92.out)).add (Gs.ofBox2 H62.out))
       clear HO2 HQ2 HC2 B92 HB2
       have Hca := HLa
       refine Gs.hide G (fun Ψ GP hP hQ_ => ?_)
       clear G
       refine regD [5, 7] GP (by kernel_rfl) rfl laws_DropOver_.tab8 laws_DropOver_.bits8 (fun wr hbr GV HT_ HW_ => ?_)
       have HO4 := aM (Kd.S_below HO3.out hbr)
       have HQ4 := aM (Kd.S_below HQ3.out hbr)
       have H43 := aM (blk_below H42.out hbr)
       have H63 := aM (blk_below H62.out hbr)
       clear GP hbr HO3 HQ3 H42 H62
       have HB := aM (Below.refl wr.heap.size wr)
       refine (pu 0 (some 28) 1 ?_ ?_ HT_ rfl rfl (by kernel_rfl) (fun _ _ _ h => h) ?_ ?_ ?_ (tk 1 (some 29) 3 ?_ ?_ HT_ HW_ rfl rfl (by kernel_rfl) (fun _ _ _ h => h) (GV.go HB.out).at_ ?_ ?_ ?_ (tk 2 (some 30) 7 ?_ ?_ HT_ HW_ rfl rfl (by kernel_rfl) (fun _ _ _ h => h) (GV.go HB.out).at_ ?_ ?_ ?_ ?_)))
       all_goals first | (rintro w' hp_; obtain ⟨⟨⟨-, -⟩, ⟨s0, s1, s2, s3⟩⟩, ⟨s4, s5⟩⟩ := hP _ hp_; go_simp; with_reducible rfl) | (intro w'; go_simp; with_reducible rfl) | (simp only [Act.put, List.setIfInBounds_toArray, List.set_cons_zero, List.set_cons_succ, i64_w, i32_w]; rfl) | rfl | skip
       refine rcD 3 31 15 HT_ rfl rfl (by decide) (by kernel_rfl) Try.func57 (by kernel_rfl) rfl rfl #[.agg #[.slice Aa (rd_T26 l0_1 (i : Int)).f0.length ca, .int .i64 ((rd_T26 l0_1 (i : Int)).f1), .int .i64 ((rd_T26 l0_1 (i : Int)).f2), .string ((rd_T26 l0_1 (i : Int)).f3)]] (by rfl) (by (try simp only [List.map_toArray, List.map_cons, List.map_nil]); first | done | rfl) ?_
       refine (impl_copyAlarm.calls _ _ ((rd_T26 l0_1 (i : Int)).f0) ((rd_T26 l0_1 (i : Int)).f1) ((rd_T26 l0_1 (i : Int)).f2) ((rd_T26 l0_1 (i : Int)).f3) lx sx ex nx _ (Kd.C_below HCw.out (hP _ (GV.go HB.out).at_).1.1.1) Hca.out AC.out).mono ?_
       rintro e w1 ⟨v31_0, rfl, ho31_0, hb⟩
       obtain ⟨A31_0, c31_0, rfl, _, _⟩ := Kd.R_reads ho31_0
       have hTop := (hP _ (GV.go HB.out).at_).1.1.2
       obtain ⟨loA31_0, hiA31_0, hOA31_0, hTA31_0, hSA31_0⟩ := newR (Nat.le_refl _) (hP _ (GV.go HB.out).at_).1.1.1 hb ho31_0
       have XA31_0 := Gs.ownR hSA31_0
       have OA31_0 := aM (And.intro (Nat.le_trans hTop hOA31_0.1) hOA31_0.2)
       (try clear HTI)
       have HTI := aM hTA31_0
       clear hTop
       have HB1 := aM (below_step HB.out hb); clear HB hb hOA31_0 hTA31_0 hSA31_0 ho31_0; have HB := HB1; clear HB1
       refine ⟨_, rfl, (GV.go HB.out).at_, ?_⟩; intro a' ha; simp only [Act.put, List.setIfInBounds_toArray, List.set_cons_zero, List.set_cons_succ, i64_w, i32_w] at ha; subst ha
       have hr := Kd.S_below HO4.out HB.out
       have hq := Kd.S_below HQ4.out HB.out
       have h4 := blk_below H43.out HB.out
       have h6 := blk_below H63.out HB.out
       have hbw := (hP _ (GV.go HB.out).at_).1.1.1
       have htp := (hP _ (GV.go HB.out).at_).1.1.2
       have hin := (Kd.S_R hr).1
       have hOX := OA31_0.out
       refine one_ (i := 4) (N := some 32) (bz 8 31) rfl rfl (one_of HT_.out (by kernel_rfl)) (by decide) (fun K hK => ?_)
       refine value_ (w1 := ?_) (v := ?_) (by rfl) rfl ?_ ?_
       rotate_left 2
       · go_simp
         constructor
         · rfl
         · rfl
       refine hK.out _ _ (GV.go (below_step HB.out (below_alloc (Below.refl _ _) _))).at_ (fun _ => ?_)
       clear hK K
       refine norm_ (a' := ?_) ?_ ?_
       rotate_left
       · show Act.put _ (some 32) _ = _
         simp only [Act.put, List.setIfInBounds_toArray, List.set_cons_zero, List.set_cons_succ, i64_w, i32_w]
         rfl
       refine last_ (i := 5) (N := some 33) (bz 8 63) rfl rfl (one_of HT_.out (by kernel_rfl)) (by decide) (fun K hK => ?_)
       refine Kd.S_append_step k26 (w0 := w) w.heap.size (by rfl) (.tmp 29) (.tmp 32) 37 26 (.agg #[(.slice none 0 0), (.int .i64 0), (.int .i64 0), (.string ⟨#[]⟩)]) 56 rfl Try.underlying37 info26 rfl (by decide) (by omega) (.slice Ao out.length co) out (⟨lx, sx, ex, nx⟩ : S26) [.slice A31_0 lx.length c31_0, .int .i64 sx, .int .i64 ex, .string nx] (fun k_ => P k_ ∨ w4.heap.size ≤ k_) (Iv loA31_0 hiA31_0) rfl rfl ?aP ?aQ ?aF ?aO ?aB ?aS ?aL ?_
       case aP => exact k26_mkM _ _ _ (⟨lx, sx, ex, nx⟩ : S26) (v0 := .slice A31_0 lx.length c31_0) XA31_0.at_
       case aQ => exact fun k_ h_ => ⟨Or.inr (by unfold Iv at h_; omega), fun h2_ => by have q_ := (hin k_ h2_.symm).2.2.1; unfold Iv at h_; omega⟩
       case aF => exact fun k_ h_ => Or.inr (Nat.le_trans htp h_)
       case aO => exact Kd.S_mono hr (fun k_ hk_ => ⟨Or.inl hk_.1, fun h_ => by have q_ := hk_.2.2.1; unfold Iv at h_; omega⟩)
       case aB => exact hbw
       case aS => exact hbw.size
       case aL => have := LM.out; omega
       intro v1 w2 ho hb hg hat
       obtain ⟨ml, hml⟩ : ∃ y_ : List S26, y_ = out ++ [(⟨lx, sx, ex, nx⟩ : S26)] := ⟨_, rfl⟩
       rw [← hml] at ho
       have NML := aM hml
       clear hml
       obtain ⟨An, cn, rfl⟩ := Kd.S_slice ho
       have H44 := aM ((hg.block g4 (blk_lt h4) (Kd.S_ne hr h4 (by decide))).trans h4)
       have H64 := aM ((hg.block g6 (blk_lt h6) (Kd.S_ne hr h6 (by decide))).trans h6)
       have HB5 := aM hb
       have HO5 := aM ho
       have HQ5 := aM (Kd.S_grown (Kd.S_mono hq (fun k_ hk_ => (⟨⟨hk_.1, hk_.2.2.1⟩, fun e_ => hk_.1 (hin k_ e_.symm).1⟩ : (¬ P k_ ∧ k_ < w4.heap.size) ∧ some k_ ≠ (Value.slice Ao out.length co).ownBlock))) hg (fun k_ h_ => h_.2))
       refine hK.out _ _ ?_
       clear hK K ho hb hg hat hr hq h4 h6 hbw htp hin hOX GV hP hQ_ HB
       refine norm_ (a' := ?_) ?_ ?_
       rotate_left
       · show Act.put _ (some 33) _ = _
         simp only [Act.put, List.setIfInBounds_toArray, List.set_cons_zero, List.set_cons_succ, i64_w, i32_w]
         rfl
       refine (pu 6 (some 34) 127 ?_ ?_ HT_ rfl rfl (by kernel_rfl) (fun _ _ _ h => h) ?_ ?_ ?_ ?_)
       all_goals first | (rintro w' hp_; obtain ⟨⟨⟨-, -⟩, ⟨s0, s1, s2, s3⟩⟩, ⟨s4, s5⟩⟩ := hP _ hp_; go_simp; with_reducible rfl) | (intro w'; go_simp; with_reducible rfl) | (simp only [Act.put, List.setIfInBounds_toArray, List.set_cons_zero, List.set_cons_succ, i64_w, i32_w]; rfl) | rfl | skip
       have z6_0 := cz2_0 H64
       have z6_1 := cz2_1 H64
       have y6_0 := blk_frozen H64.out 0
       have y6_1 := blk_frozen H64.out 1
       refine lsD 7 255 (w1 := ?w7_) HT_ rfl rfl (by decide) (by kernel_rfl) (by rfl) ?hr7_ ?_
       case hr7_ => go_simp; rfl
       clear z6_0 z6_1 y6_0 y6_1
       refine done_ (done_of HT_.out (by kernel_rfl)) ?_
       have H45 := aM ((Below.heap_setCell w2 ⟨g6, 1, none⟩ (.slice An ml.length cn) g4 N46.out).trans H44.out)
       have H65 := aM (show (w2.setCell ⟨g6, 1, none⟩ (.slice An ml.length cn)).heap[g6]? = some (.cells #[.int .i64 a0_0, .slice An ml.length cn] 39 (0, 0)) from blk_put H64.out 1 (.slice An ml.length cn) rfl)
       have HB6 := aM (show Below w.heap.size w (w2.setCell ⟨g6, 1, none⟩ (.slice An ml.length cn)) from below_set HB5.out HG6.out)
       have HO6 := aM (show Kd.S k26 26 (w2.setCell ⟨g6, 1, none⟩ (.slice An ml.length cn)) w.heap.size (fun k_ => P k_ ∨ w4.heap.size ≤ k_) (.slice An ml.length cn) ml from Kd.S_set HO5.out H64.out (by decide) 1 _)
       have HQ6 := aM (show Kd.S k26 26 (w2.setCell ⟨g6, 1, none⟩ (.slice An ml.length cn)) w.heap.size (fun k_ => (¬ P k_ ∧ k_ < w4.heap.size) ∧ some k_ ≠ (Value.slice Ao out.length co).ownBlock) (.slice Ag gone.length cg) gone from Kd.S_set HQ5.out H64.out (by decide) 1 _)
       clear H44 H64 HB5 HO5 HQ5
       generalize (w2.setCell ⟨g6, 1, none⟩ (.slice An ml.length cn)) = w9 at H45 H65 HB6 HO6 HQ6 ⊢
       go_wp2
       go_roundg (l0_1.length - (i + 1))
       case measure => omega
       case rel => exact ⟨i + 1, ml, gone, An, Ag, cn, cg, fun k_ => P k_ ∨ w4.heap.size ≤ k_, rfl, by go_num, by omega, Nat.le_refl _, ⟨by rw [NML.out]; exact H'.out⟩, H45, H65, HO6, ⟨Kd.S_mono HQ6.out (fun k_ h_ h2_ => h2_.elim h_.1.1 (fun h3_ => by have := h_.1.2; omega))⟩, HB6⟩
     · rw [if_neg hN] at H; cases H
  · skip
    have hltb : decide ((i : Int) < (l0_1.length : Int)) = false := decide_eq_false (by omega)
    have H := HG.out
    rw [List.drop_eq_nil_of_le (by omega)] at H
    simp only [impl_DropOver2.go, Option.some.injEq, Prod.mk.injEq] at H
    obtain ⟨rfl, rfl⟩ := H
    clear HG
    have z4_0 := cz2_0 H4
    have z4_1 := cz2_1 H4
    have y4_0 := blk_frozen H4.out 0
    have y4_1 := blk_frozen H4.out 1
    have z6_0 := cz2_0 H6
    have z6_1 := cz2_1 H6
    have n46 := N46.out
    have n64 : g6 ≠ g4 := fun h_ => n46 h_.symm
    go_wp2
    refine bodyPost_ret (results_ct rfl _ _ g4 39 #[.int .i64 a0_0, .slice Ao out.length co] (0, 0) _ rfl (set2_blk H4.out) Try.underlying39 rfl (by kernel_rfl)) rfl ?_
    exact ⟨_, _, P, rfl, Kd.S_set (Kd.S_set HO.out H4.out (by decide) 0 _) (blk_put H4.out 0 _ rfl) (by decide) 1 _, Kd.S_set (Kd.S_set HQ.out H4.out (by decide) 0 _) (blk_put H4.out 0 _ rfl) (by decide) 1 _, below_set (below_set HB.out HG4.out) HG4.out⟩
def laws_FnExactDropOver.T10 : Bool × List (List Nat × List Nat) := (true, [([], []), ([], []), ([1], [1]), ([0, 2, 2], [0, 2]), ([3], [3])])
def laws_FnExactDropOver.B10 : List Nat := [0, 0, 2, 7, 15]
theorem laws_FnExactDropOver.tab10 : rtab .any (opsOf Try.f4 10) = laws_FnExactDropOver.T10 := by kernel_rfl
theorem laws_FnExactDropOver.bits10 : waitsOk laws_FnExactDropOver.T10.2 laws_FnExactDropOver.B10 = true := by kernel_rfl
set_option maxHeartbeats 16000000 in
set_option maxRecDepth 100000 in
theorem laws_FnExactDropOver.early1 (k : Nat) (a0_0 : Int) (A0_1 : Option Addr) (c0_1 : Nat) (l0_1 : List S62) (a1 : Int) (w : World) (hr0_1 : Kd.C k62 w A0_1 l0_1.length l0_1) (hc0_1 : l0_1.length ≤ c0_1) (q1 : Int)
  (F1 : Aside0 (laws_szChain.f k a0_0 l0_1 1048576 = some q1))
  (K0 : Aside0 (decide (q1 < 0) = true)) :
  Calls Try.prog 4 #[.agg #[.int .i64 a0_0, .slice A0_1 l0_1.length c0_1], .int .i64 a1] w fun e w' => e = .returned (.bool true) ∧ Below w.heap.size w w' := by
 have Hc0_1 := aM hc0_1
 have HR0_1 := aM hr0_1
 have G := (Gs.below w).add (Gs.top (Nat.le_refl w.heap.size))
 clear hc0_1 hr0_1
 go_enter Try.func4, Try.ntmps4
 go_upto_region 1 with (first | ((with_reducible refine gate_dst (N := 2) rfl ?_); refine box_event ?hg (N := 2) ?hd (cs := #[.int .i64 a0_0, .slice A0_1 l0_1.length c0_1]) (t := 35) ?hr ?_; (case hd => rfl); (case hg => rfl); (case hr => first | (go_simp; done) | (go_simp; rfl)); intro g2 hg w2 hbox hb; have Hg2 := aM (show w.heap.size ≤ g2 from hg ▸ G.at_.2); have G1 := (((G.go hb).add (Gs.ofBox2 hbox)).add (Gs.top (Nat.succ_le_of_lt (blk_lt hbox)))); clear hb hbox hg G; have G := G1; clear G1))
 go_upto_region 2 with (fail)
 obtain ⟨zg2_0, zg2_1⟩ := G.at_.1.2
 go_upto_region 3 with (first | ((with_reducible refine gate_callee (f := 19) rfl ?_); refine goesL_ (some 18) rfl rfl Try.func19 (by kernel_rfl) rfl #[.agg #[.int .i64 a0_0, .slice A0_1 l0_1.length c0_1], .int .i64 1048576] rfl (by (try simp only [List.map_toArray, List.map_cons, List.map_nil]); first | done | rfl) ?_; refine (laws_szChain.calls k a0_0 _ _ l0_1 1048576 q1 _ (Kd.C_below HR0_1.out G.at_.1.1.1) Hc0_1.out F1.out).mono ?_; rintro e w1 ⟨rfl, hb⟩; refine ⟨_, rfl, ?_⟩; have G1 := (G.go hb); clear G hb; have G := G1; clear G1))
 (try clear zg2_0)
 (try clear zg2_1)
 have hk0_ := K0.out
 try go_wp2
 try go_wp2
 go_ret
 exact ⟨rfl, G.at_.1.1.1⟩
set_option maxHeartbeats 16000000 in
set_option maxRecDepth 100000 in
theorem laws_FnExactDropOver.way (k : Nat) (a0_0 : Int) (A0_1 : Option Addr) (c0_1 : Nat) (l0_1 : List S62) (a1 : Int) (w : World) (hr0_1 : Kd.C k62 w A0_1 l0_1.length l0_1) (hc0_1 : l0_1.length ≤ c0_1) (q1 : Int) (fc : Int) (m0 : List (S26)) (fo : Int) (mo : List (S26)) (mg : List (S26)) (e1 : Int) (m1 : List (S26)) (e2 : Int) (m2 : List (S26)) (e3 : Int) (m3 : List (S26))
  (F1 : Aside0 (laws_szChain.f k a0_0 l0_1 1048576 = some q1))
  (F2 : Aside0 (laws_toChain.f k a0_0 l0_1 = some (fc, m0)))
  (F3 : Aside0 (spec_DropOver.f k fc m0 a1 = some (fo, mo, mg)))
  (F4 : Aside0 (impl_DropOver2.f k fc m0 a1 = some (fo, mo, mg)))
  (F5 : Aside0 (laws_eqChain.f k fo mo fo mo = some true))
  (F6 : Aside0 (laws_eqAlarmS.f k mg mg = some true))
  (F7 : Aside0 (laws_eqChain.f k fc m0 fc m0 = some true))
  (F8 : Aside0 (laws_markChain.f k fc m0 1 = some (e1, m1)))
  (F9 : Aside0 (laws_markChain.f k fo mo 1 = some (e2, m2)))
  (F10 : Aside0 (laws_markAlarmS.f k mg e2 = some (e3, m3)))
  (F11 : Aside0 (laws_heldChain.f k fo m2 1 = some e2))
  (F12 : Aside0 (laws_heldAlarmS.f k m3 e2 = some e3))
  (K0 : Aside0 (decide (q1 < 0) = false))
  (K1 : Aside0 (decide (e1 < 0) = false))
  (K2 : Aside0 (decide (e2 < 0) = false))
  (K3 : Aside0 (decide (e3 < 0) = false))
  (K4 : Aside0 ((e3 != e3) = false)) :
  Calls Try.prog 4 #[.agg #[.int .i64 a0_0, .slice A0_1 l0_1.length c0_1], .int .i64 a1] w fun e w' => e = .returned (.bool true) ∧ Below w.heap.size w w' := by
 have Hc0_1 := aM hc0_1
 have HR0_1 := aM hr0_1
 have G := (Gs.below w).add (Gs.top (Nat.le_refl w.heap.size))
 clear hc0_1 hr0_1
 go_enter Try.func4, Try.ntmps4
 go_upto_region 1 with (first | ((with_reducible refine gate_dst (N := 2) rfl ?_); refine box_event ?hg (N := 2) ?hd (cs := #[.int .i64 a0_0, .slice A0_1 l0_1.length c0_1]) (t := 35) ?hr ?_; (case hd => rfl); (case hg => rfl); (case hr => first | (go_simp; done) | (go_simp; rfl)); intro g2 hg w2 hbox hb; have Hg2 := aM (show w.heap.size ≤ g2 from hg ▸ G.at_.2); have G1 := (((G.go hb).add (Gs.ofBox2 hbox)).add (Gs.top (Nat.succ_le_of_lt (blk_lt hbox)))); clear hb hbox hg G; have G := G1; clear G1))
 go_upto_region 2 with (fail)
 obtain ⟨zg2_0, zg2_1⟩ := G.at_.1.2
 go_upto_region 3 with (first | ((with_reducible refine gate_callee (f := 19) rfl ?_); refine goesL_ (some 18) rfl rfl Try.func19 (by kernel_rfl) rfl #[.agg #[.int .i64 a0_0, .slice A0_1 l0_1.length c0_1], .int .i64 1048576] rfl (by (try simp only [List.map_toArray, List.map_cons, List.map_nil]); first | done | rfl) ?_; refine (laws_szChain.calls k a0_0 _ _ l0_1 1048576 q1 _ (Kd.C_below HR0_1.out G.at_.1.1.1) Hc0_1.out F1.out).mono ?_; rintro e w1 ⟨rfl, hb⟩; refine ⟨_, rfl, ?_⟩; have G1 := (G.go hb); clear G hb; have G := G1; clear G1))
 (try clear zg2_0)
 (try clear zg2_1)
 have hk0_ := K0.out
 go_upto_region 5 with (fail)
 obtain ⟨zg2_0, zg2_1⟩ := G.at_.1.2
 go_upto_region 6 with (first | ((with_reducible refine gate_callee (f := 21) rfl ?_); refine goesL_ (some 23) rfl rfl Try.func21 (by kernel_rfl) rfl #[.agg #[.int .i64 a0_0, .slice A0_1 l0_1.length c0_1]] rfl (by (try simp only [List.map_toArray, List.map_cons, List.map_nil]); first | done | rfl) ?_; refine (laws_toChain.calls k a0_0 _ _ l0_1 fc m0 _ (Kd.C_below HR0_1.out G.at_.1.1.1) Hc0_1.out F2.out).mono ?_; rintro e w1 ⟨v23_0, rfl, ho23_0, hb⟩; refine ⟨_, rfl, ?_⟩; obtain ⟨A23_0, c23_0, rfl, _, _⟩ := Kd.S_reads ho23_0; obtain ⟨loA23_0, hiA23_0, hOA23_0, hTA23_0, hSA23_0⟩ := newS G.at_.2 G.at_.1.1.1 hb ho23_0; have OA23_0 := aM hOA23_0; clear hOA23_0 ho23_0; have G1 := (((G.go hb).add (Gs.ownS hSA23_0)).add (Gs.top hTA23_0)); clear G hb hSA23_0 hTA23_0; have G := G1; clear G1) | ((with_reducible refine gate_callee (f := 20) rfl ?_); refine goesL_ (some 25) rfl rfl Try.func20 (by kernel_rfl) rfl #[.agg #[.int .i64 fc, .slice A23_0 m0.length c23_0], .int .i64 a1] rfl (by (try simp only [List.map_toArray, List.map_cons, List.map_nil]); first | done | rfl) ?_; refine (spec_DropOver.calls k fc _ _ m0 a1 fo mo mg _ (Kd.S_reads' G.at_.1.2).2.2 ((Kd.S_reads' G.at_.1.2).1 ▸ (Kd.S_reads' G.at_.1.2).2.1) F3.out).mono ?_; rintro e w1 ⟨v25_0, v25_1, rfl, ho25_0, ho25_1, hb⟩; refine ⟨_, rfl, ?_⟩; obtain ⟨A25_0, c25_0, rfl, _, _⟩ := Kd.S_reads ho25_0; obtain ⟨A25_1, c25_1, rfl, _, _⟩ := Kd.S_reads ho25_1; obtain ⟨loA25_0, hiA25_0, hOA25_0, hTA25_0, hSA25_0, hSA25_1⟩ := new2 G.at_.2 G.at_.1.1.1.1.1 hb ho25_0 ho25_1; have OA25_0 := aM hOA25_0; clear hOA25_0 ho25_0 ho25_1; have G1 := ((((G.go hb).add (Gs.ownS hSA25_0)).add (Gs.ownS hSA25_1)).add (Gs.top hTA25_0)); clear G hb hSA25_0 hSA25_1 hTA25_0; have G := G1; clear G1) | ((with_reducible refine gate_dst (N := 6) rfl ?_); refine box_event ?hg (N := 6) ?hd (cs := #[.int .i64 0, .slice none 0 0]) (t := 39) ?hr ?_; (case hd => rfl); (case hg => rfl); (case hr => first | (go_simp; done) | (go_simp; rfl)); intro g6 hg w2 hbox hb; have Hg6 := aM (show hiA25_0 ≤ g6 from hg ▸ G.at_.2); have HB_g6 := aM hb; have HE_g6 := aM hg; have BK_g6 := aM hbox; have zg6_0 := cz2_0 ⟨hbox⟩; have yg6_0 := blk_frozen hbox 0; have zg6_1 := cz2_1 ⟨hbox⟩; have yg6_1 := blk_frozen hbox 1; clear hb hbox hg))
 (try clear zg2_0)
 (try clear zg2_1)
 (try clear zg6_0)
 (try clear yg6_0)
 (try clear zg6_1)
 (try clear yg6_1)
 have G1 := ((Gs.put2 (.int .i64 fo) (.slice A25_0 mo.length c25_0) G HB_g6 HE_g6 BK_g6)).add (Gs.top (Nat.succ_le_of_lt (blk_lt (set2_blk BK_g6.out))))
 clear G; have G := G1; clear G1
 generalize ((w2.setCell ⟨g6, 0, none⟩ (.int .i64 fo)).setCell ⟨g6, 1, none⟩ (.slice A25_0 mo.length c25_0)) = w3 at G ⊢
 clear HB_g6 HE_g6 BK_g6
 obtain ⟨zg2_0, zg2_1⟩ := G.at_.1.1.1.1.1.1.1.1.2
 go_upto_region 7 with (first | ((with_reducible refine gate_callee (f := 21) rfl ?_); refine goesL_ (some 29) rfl rfl Try.func21 (by kernel_rfl) rfl #[.agg #[.int .i64 a0_0, .slice A0_1 l0_1.length c0_1]] rfl (by (try simp only [List.map_toArray, List.map_cons, List.map_nil]); first | done | rfl) ?_; refine (laws_toChain.calls k a0_0 _ _ l0_1 fc m0 _ (Kd.C_below HR0_1.out G.at_.1.1.1.1.1.1.1.1.1.1) Hc0_1.out F2.out).mono ?_; rintro e w1 ⟨v29_0, rfl, ho29_0, hb⟩; refine ⟨_, rfl, ?_⟩; obtain ⟨A29_0, c29_0, rfl, _, _⟩ := Kd.S_reads ho29_0; obtain ⟨loA29_0, hiA29_0, hOA29_0, hTA29_0, hSA29_0⟩ := newS G.at_.2 G.at_.1.1.1.1.1.1.1.1.1.1 hb ho29_0; have OA29_0 := aM hOA29_0; clear hOA29_0 ho29_0; have G1 := (((G.go hb).add (Gs.ownS hSA29_0)).add (Gs.top hTA29_0)); clear G hb hSA29_0 hTA29_0; have G := G1; clear G1) | ((with_reducible refine gate_dst (N := 8) rfl ?_); refine box_event ?hg (N := 8) ?hd (cs := #[.int .i64 0, .slice none 0 0]) (t := 39) ?hr ?_; (case hd => rfl); (case hg => rfl); (case hr => first | (go_simp; done) | (go_simp; rfl)); intro g8 hg w2 hbox hb; have Hg8 := aM (show hiA29_0 ≤ g8 from hg ▸ G.at_.2); have HB_g8 := aM hb; have HE_g8 := aM hg; have BK_g8 := aM hbox; have zg8_0 := cz2_0 ⟨hbox⟩; have yg8_0 := blk_frozen hbox 0; have zg8_1 := cz2_1 ⟨hbox⟩; have yg8_1 := blk_frozen hbox 1; clear hb hbox hg))
 (try clear zg2_0)
 (try clear zg2_1)
 (try clear zg8_0)
 (try clear yg8_0)
 (try clear zg8_1)
 (try clear yg8_1)
 have G1 := ((Gs.put2 (.int .i64 fc) (.slice A29_0 m0.length c29_0) G HB_g8 HE_g8 BK_g8)).add (Gs.top (Nat.succ_le_of_lt (blk_lt (set2_blk BK_g8.out))))
 clear G; have G := G1; clear G1
 generalize ((w2.setCell ⟨g8, 0, none⟩ (.int .i64 fc)).setCell ⟨g8, 1, none⟩ (.slice A29_0 m0.length c29_0)) = w3 at G ⊢
 clear HB_g8 HE_g8 BK_g8
 obtain ⟨zg8_0, zg8_1⟩ := G.at_.1.2
 go_upto_region 8 with (first | ((with_reducible refine gate_callee (f := 22) rfl ?_); refine goesL_ (some 33) rfl rfl Try.func22 (by kernel_rfl) rfl #[.agg #[.int .i64 fc, .slice A29_0 m0.length c29_0], .int .i64 a1] rfl (by (try simp only [List.map_toArray, List.map_cons, List.map_nil]); first | done | rfl) ?_; refine (impl_DropOver2.calls k fc _ _ m0 a1 fo mo mg _ (Kd.S_reads' G.at_.1.1.1.2).2.2 ((Kd.S_reads' G.at_.1.1.1.2).1 ▸ (Kd.S_reads' G.at_.1.1.1.2).2.1) F4.out).mono ?_; rintro e w1 ⟨v33_0, v33_1, Pd33, rfl, ho33_0, ho33_1, hb⟩; refine ⟨_, rfl, ?_⟩; obtain ⟨A33_0, c33_0, rfl, _, _⟩ := Kd.S_reads ho33_0; obtain ⟨A33_1, c33_1, rfl, _, _⟩ := Kd.S_reads ho33_1; obtain ⟨loA33_0, hiA33_0, hOA33_0, hTA33_0, hSA33_0, hSA33_1⟩ := new2P G.at_.2 G.at_.1.1.1.1.1.1.1.1.1.1.1.1.1.1 hb ho33_0 ho33_1; have OA33_0 := aM hOA33_0; clear hOA33_0 ho33_0 ho33_1; have G1 := ((((G.go hb).add (Gs.ownS hSA33_0)).add (Gs.ownS hSA33_1)).add (Gs.top hTA33_0)); clear G hb hSA33_0 hSA33_1 hTA33_0; have G := G1; clear G1) | ((with_reducible refine gate_dst (N := 9) rfl ?_); refine box_event ?hg (N := 9) ?hd (cs := #[.int .i64 0, .slice none 0 0]) (t := 39) ?hr ?_; (case hd => rfl); (case hg => rfl); (case hr => first | (go_simp; done) | (go_simp; rfl)); intro g9 hg w2 hbox hb; have Hg9 := aM (show hiA33_0 ≤ g9 from hg ▸ G.at_.2); have HB_g9 := aM hb; have HE_g9 := aM hg; have BK_g9 := aM hbox; have zg9_0 := cz2_0 ⟨hbox⟩; have yg9_0 := blk_frozen hbox 0; have zg9_1 := cz2_1 ⟨hbox⟩; have yg9_1 := blk_frozen hbox 1; clear hb hbox hg))
 (try clear zg8_0)
 (try clear zg8_1)
 (try clear zg9_0)
 (try clear yg9_0)
 (try clear zg9_1)
 (try clear yg9_1)
 have G1 := ((Gs.put2 (.int .i64 fo) (.slice A33_0 mo.length c33_0) G HB_g9 HE_g9 BK_g9)).add (Gs.top (Nat.succ_le_of_lt (blk_lt (set2_blk BK_g9.out))))
 clear G; have G := G1; clear G1
 generalize ((w2.setCell ⟨g9, 0, none⟩ (.int .i64 fo)).setCell ⟨g9, 1, none⟩ (.slice A33_0 mo.length c33_0)) = w3 at G ⊢
 clear HB_g9 HE_g9 BK_g9
 obtain ⟨zg9_0, zg9_1⟩ := G.at_.1.2
 obtain ⟨zg6_0, zg6_1⟩ := G.at_.1.1.1.1.1.1.1.1.1.1.2
 go_upto_region 10 with (first | ((with_reducible refine gate_callee (f := 23) rfl ?_); refine goesL_ (some 38) rfl rfl Try.func23 (by kernel_rfl) rfl #[.agg #[.int .i64 fo, .slice A33_0 mo.length c33_0], .agg #[.int .i64 fo, .slice A25_0 mo.length c25_0]] rfl (by (try simp only [List.map_toArray, List.map_cons, List.map_nil]); first | done | rfl) ?_; refine (laws_eqChain.calls k fo _ _ mo fo _ _ mo true _ (Kd.S_reads' G.at_.1.1.1.1.2).2.2 ((Kd.S_reads' G.at_.1.1.1.1.2).1 ▸ (Kd.S_reads' G.at_.1.1.1.1.2).2.1) (Kd.S_reads' G.at_.1.1.1.1.1.1.1.1.1.1.1.1.1.2).2.2 ((Kd.S_reads' G.at_.1.1.1.1.1.1.1.1.1.1.1.1.1.2).1 ▸ (Kd.S_reads' G.at_.1.1.1.1.1.1.1.1.1.1.1.1.1.2).2.1) F5.out).mono ?_; rintro e w1 ⟨rfl, hb⟩; refine ⟨_, rfl, ?_⟩; have G1 := (G.go hb); clear G hb; have G := G1; clear G1) | ((with_reducible refine gate_callee (f := 24) rfl ?_); refine gate_guard (by rfl) ?_; refine goesL_ (some 43) rfl rfl Try.func24 (by kernel_rfl) rfl #[.slice A33_1 mg.length c33_1, .slice A25_1 mg.length c25_1] rfl (by (try simp only [List.map_toArray, List.map_cons, List.map_nil]); first | done | rfl) ?_; refine (laws_eqAlarmS.calls k _ _ mg _ _ mg true _ (Kd.S_reads' G.at_.1.1.1.2).2.2 ((Kd.S_reads' G.at_.1.1.1.2).1 ▸ (Kd.S_reads' G.at_.1.1.1.2).2.1) (Kd.S_reads' G.at_.1.1.1.1.1.1.1.1.1.1.1.1.2).2.2 ((Kd.S_reads' G.at_.1.1.1.1.1.1.1.1.1.1.1.1.2).1 ▸ (Kd.S_reads' G.at_.1.1.1.1.1.1.1.1.1.1.1.1.2).2.1) F6.out).mono ?_; rintro e w1 ⟨rfl, hb⟩; refine ⟨_, rfl, ?_⟩; have G1 := (G.go hb); clear G hb; have G := G1; clear G1))
 (try clear zg9_0)
 (try clear zg9_1)
 (try clear zg6_0)
 (try clear zg6_1)
 refine Gs.hide G (fun Ψ GP hP hQ => ?_)
 clear G
 refine regD [] GP (by kernel_rfl) rfl laws_FnExactDropOver.tab10 laws_FnExactDropOver.bits10 (fun wr hbr GV HT_ HW_ => ?_)
 clear GP hbr
 have HB := aM (Below.refl wr.heap.size wr)
 refine (tk 0 (some 46) 1 ?_ ?_ HT_ HW_ rfl rfl (by kernel_rfl) (fun _ _ _ h => h) (GV.go HB.out).at_ ?_ ?_ ?_ (tk 1 (some 47) 3 ?_ ?_ HT_ HW_ rfl rfl (by kernel_rfl) (fun _ _ _ h => h) (GV.go HB.out).at_ ?_ ?_ ?_ ?_))
 all_goals first | (rintro w' hp_; obtain ⟨⟨⟨⟨⟨⟨⟨⟨⟨⟨⟨⟨⟨⟨⟨⟨⟨⟨⟨-, -⟩, ⟨s0, s1⟩⟩, -⟩, -⟩, -⟩, -⟩, -⟩, -⟩, ⟨s2, s3⟩⟩, -⟩, -⟩, -⟩, ⟨s4, s5⟩⟩, -⟩, -⟩, -⟩, -⟩, ⟨s6, s7⟩⟩, -⟩ := hP _ hp_; go_simp; with_reducible rfl) | (intro w'; go_simp; with_reducible rfl) | (simp only [Act.put, List.setIfInBounds_toArray, List.set_cons_zero, List.set_cons_succ, i64_w, i32_w]; rfl) | rfl | skip
 refine rcD 2 48 7 HT_ rfl rfl (by decide) (by kernel_rfl) Try.func21 (by kernel_rfl) rfl rfl #[.agg #[.int .i64 a0_0, .slice A0_1 l0_1.length c0_1]] (by rfl) (by (try simp only [List.map_toArray, List.map_cons, List.map_nil]); first | done | rfl) ?_
 refine (laws_toChain.calls k a0_0 _ _ l0_1 fc m0 _ (Kd.C_below HR0_1.out (hP _ (GV.go HB.out).at_).1.1.1.1.1.1.1.1.1.1.1.1.1.1.1.1.1.1.1) Hc0_1.out F2.out).mono ?_
 rintro e w1 ⟨v48_0, rfl, ho48_0, hb⟩
 obtain ⟨A48_0, c48_0, rfl, _, _⟩ := Kd.S_reads ho48_0
 have hTop := (hP _ (GV.go HB.out).at_).2
 obtain ⟨loA48_0, hiA48_0, hOA48_0, hTA48_0, hSA48_0⟩ := newS (Nat.le_refl _) (hP _ (GV.go HB.out).at_).1.1.1.1.1.1.1.1.1.1.1.1.1.1.1.1.1.1.1 hb ho48_0
 have XA48_0 := Gs.ownS hSA48_0
 have OA48_0 := aM (And.intro (Nat.le_trans hTop hOA48_0.1) hOA48_0.2)
 (try clear HTI)
 have HTI := aM hTA48_0
 clear hTop
 have HB1 := aM (below_step HB.out hb); clear HB hb hOA48_0 hTA48_0 hSA48_0 ho48_0; have HB := HB1; clear HB1
 refine ⟨_, rfl, (GV.go HB.out).at_, ?_⟩; intro a' ha; simp only [Act.put, List.setIfInBounds_toArray, List.set_cons_zero, List.set_cons_succ, i64_w, i32_w] at ha; subst ha
 refine rcD 3 49 15 HT_ rfl rfl (by decide) (by kernel_rfl) Try.func23 (by kernel_rfl) rfl rfl #[.agg #[.int .i64 fc, .slice A29_0 m0.length c29_0], .agg #[.int .i64 fc, .slice A48_0 m0.length c48_0]] (by rfl) (by (try simp only [List.map_toArray, List.map_cons, List.map_nil]); first | done | rfl) ?_
 refine (laws_eqChain.calls k fc _ _ m0 fc _ _ m0 true _ (Kd.S_reads' (hP _ (GV.go HB.out).at_).1.1.1.1.1.1.1.1.2).2.2 ((Kd.S_reads' (hP _ (GV.go HB.out).at_).1.1.1.1.1.1.1.1.2).1 ▸ (Kd.S_reads' (hP _ (GV.go HB.out).at_).1.1.1.1.1.1.1.1.2).2.1) (Kd.S_reads' XA48_0.at_).2.2 ((Kd.S_reads' XA48_0.at_).1 ▸ (Kd.S_reads' XA48_0.at_).2.1) F7.out).mono ?_
 rintro e w1 ⟨rfl, hb⟩
 replace XA48_0 := XA48_0.go hb
 have HB1 := aM (below_step HB.out hb); clear HB hb; have HB := HB1; clear HB1
 refine ⟨_, rfl, (GV.go HB.out).at_, ?_⟩; intro a' ha; simp only [Act.put, List.setIfInBounds_toArray, List.set_cons_zero, List.set_cons_succ, i64_w, i32_w] at ha; subst ha
 refine (pu 4 (some 50) 31 ?_ ?_ HT_ rfl rfl (by kernel_rfl) (fun _ _ _ h => h) ?_ ?_ ?_ ?_)
 all_goals first | (rintro w' hp_; obtain ⟨⟨⟨⟨⟨⟨⟨⟨⟨⟨⟨⟨⟨⟨⟨⟨⟨⟨⟨-, -⟩, ⟨s0, s1⟩⟩, -⟩, -⟩, -⟩, -⟩, -⟩, -⟩, ⟨s2, s3⟩⟩, -⟩, -⟩, -⟩, ⟨s4, s5⟩⟩, -⟩, -⟩, -⟩, -⟩, ⟨s6, s7⟩⟩, -⟩ := hP _ hp_; go_simp; with_reducible rfl) | (intro w'; go_simp; with_reducible rfl) | (simp only [Act.put, List.setIfInBounds_toArray, List.set_cons_zero, List.set_cons_succ, i64_w, i32_w]; rfl) | rfl | skip
 refine done_ (done_of HT_.out (by kernel_rfl)) ?_
 have G := hQ _ (GV.go HB.out)
 clear GV hP hQ HB
 go_upto_region 12 with (fail)
 go_upto_region 13 with (fail)
 obtain ⟨zg8_0, zg8_1⟩ := G.at_.1.1.1.1.1.1.2
 go_upto_region 14 with (first | ((with_reducible refine gate_callee (f := 25) rfl ?_); refine goesL_ (some 53) rfl rfl Try.func25 (by kernel_rfl) rfl #[.agg #[.int .i64 fc, .slice A29_0 m0.length c29_0], .int .i64 1] rfl (by (try simp only [List.map_toArray, List.map_cons, List.map_nil]); first | done | rfl) ?_; refine (laws_markChain.calls k (Iv loA29_0 hiA29_0) fc _ _ m0 1 e1 m1 w _ G.at_.1.1.1.1.1.1.1.1.1.1.1.1.1.1.1.1.1.1.1 G.at_.1.1.1.1.1.1.1.1.2 F8.out).mono ?_; rintro e w1 ⟨rfl, hy, hb, hk⟩; refine ⟨_, rfl, ?_⟩; have G1 := ((((((((((((((((((((Gs.bel hb).add (Gs.top (Nat.le_trans G.at_.1.1.1.1.1.1.1.1.1.1.1.1.1.1.1.1.1.1.2 hk.1))).add (Gs.ofB2 (box2_kept G.at_.1.1.1.1.1.1.1.1.1.1.1.1.1.1.1.1.1.2 hk (fun h1_ => (by unfold Iv at *; have o0_ := Hg2.out; have o1_ := OA23_0.out; have o2_ := OA25_0.out; have o3_ := Hg6.out; have o4_ := OA29_0.out; have o5_ := Hg8.out; have o6_ := OA33_0.out; have o7_ := Hg9.out; omega))))).add (Gs.top (Nat.le_trans G.at_.1.1.1.1.1.1.1.1.1.1.1.1.1.1.1.1.2 hk.1))).add (Gs.ownS (Kd.S_kept G.at_.1.1.1.1.1.1.1.1.1.1.1.1.1.1.1.2 hk (fun k_ h1_ h2_ => (by unfold Iv at *; have o0_ := Hg2.out; have o1_ := OA23_0.out; have o2_ := OA25_0.out; have o3_ := Hg6.out; have o4_ := OA29_0.out; have o5_ := Hg8.out; have o6_ := OA33_0.out; have o7_ := Hg9.out; omega))))).add (Gs.top (Nat.le_trans G.at_.1.1.1.1.1.1.1.1.1.1.1.1.1.1.2 hk.1))).add (Gs.ownS (Kd.S_kept G.at_.1.1.1.1.1.1.1.1.1.1.1.1.1.2 hk (fun k_ h1_ h2_ => (by unfold Iv at *; have o0_ := Hg2.out; have o1_ := OA23_0.out; have o2_ := OA25_0.out; have o3_ := Hg6.out; have o4_ := OA29_0.out; have o5_ := Hg8.out; have o6_ := OA33_0.out; have o7_ := Hg9.out; omega))))).add (Gs.ownS (Kd.S_kept G.at_.1.1.1.1.1.1.1.1.1.1.1.1.2 hk (fun k_ h1_ h2_ => (by unfold Iv at *; have o0_ := Hg2.out; have o1_ := OA23_0.out; have o2_ := OA25_0.out; have o3_ := Hg6.out; have o4_ := OA29_0.out; have o5_ := Hg8.out; have o6_ := OA33_0.out; have o7_ := Hg9.out; omega))))).add (Gs.top (Nat.le_trans G.at_.1.1.1.1.1.1.1.1.1.1.1.2 hk.1))).add (Gs.ofB2 (box2_kept G.at_.1.1.1.1.1.1.1.1.1.1.2 hk (fun h1_ => (by unfold Iv at *; have o0_ := Hg2.out; have o1_ := OA23_0.out; have o2_ := OA25_0.out; have o3_ := Hg6.out; have o4_ := OA29_0.out; have o5_ := Hg8.out; have o6_ := OA33_0.out; have o7_ := Hg9.out; omega))))).add (Gs.top (Nat.le_trans G.at_.1.1.1.1.1.1.1.1.1.2 hk.1))).add (Gs.ownS hy)).add (Gs.top (Nat.le_trans G.at_.1.1.1.1.1.1.1.2 hk.1))).add (Gs.ofB2 (box2_kept G.at_.1.1.1.1.1.1.2 hk (fun h1_ => (by unfold Iv at *; have o0_ := Hg2.out; have o1_ := OA23_0.out; have o2_ := OA25_0.out; have o3_ := Hg6.out; have o4_ := OA29_0.out; have o5_ := Hg8.out; have o6_ := OA33_0.out; have o7_ := Hg9.out; omega))))).add (Gs.top (Nat.le_trans G.at_.1.1.1.1.1.2 hk.1))).add (Gs.ownS (Kd.S_kept G.at_.1.1.1.1.2 hk (fun k_ h1_ h2_ => (by have h1_ := h1_.1; unfold Iv at *; have o0_ := Hg2.out; have o1_ := OA23_0.out; have o2_ := OA25_0.out; have o3_ := Hg6.out; have o4_ := OA29_0.out; have o5_ := Hg8.out; have o6_ := OA33_0.out; have o7_ := Hg9.out; omega))))).add (Gs.ownS (Kd.S_kept G.at_.1.1.1.2 hk (fun k_ h1_ h2_ => (by have h1_ := h1_.1; unfold Iv at *; have o0_ := Hg2.out; have o1_ := OA23_0.out; have o2_ := OA25_0.out; have o3_ := Hg6.out; have o4_ := OA29_0.out; have o5_ := Hg8.out; have o6_ := OA33_0.out; have o7_ := Hg9.out; omega))))).add (Gs.top (Nat.le_trans G.at_.1.1.2 hk.1))).add (Gs.ofB2 (box2_kept G.at_.1.2 hk (fun h1_ => (by unfold Iv at *; have o0_ := Hg2.out; have o1_ := OA23_0.out; have o2_ := OA25_0.out; have o3_ := Hg6.out; have o4_ := OA29_0.out; have o5_ := Hg8.out; have o6_ := OA33_0.out; have o7_ := Hg9.out; omega))))).add (Gs.top (Nat.le_trans G.at_.2 hk.1))); have HLA29_0 := aM (Kd.S_reads' hy).1.symm; clear G hy hb hk; have G := G1; clear G1))
 (try clear zg8_0)
 (try clear zg8_1)
 have hk1_ := K1.out
 obtain ⟨zg9_0, zg9_1⟩ := G.at_.1.2
 obtain ⟨zg6_0, zg6_1⟩ := G.at_.1.1.1.1.1.1.1.1.1.1.2
 go_upto_region 16 with (first | ((with_reducible refine gate_callee (f := 23) rfl ?_); refine gate_guard (by rfl) ?_; refine goesL_ (some 59) rfl rfl Try.func23 (by kernel_rfl) rfl #[.agg #[.int .i64 fo, .slice A33_0 mo.length c33_0], .agg #[.int .i64 fo, .slice A25_0 mo.length c25_0]] rfl (by (try simp only [List.map_toArray, List.map_cons, List.map_nil]); first | done | rfl) ?_; refine (laws_eqChain.calls k fo _ _ mo fo _ _ mo true _ (Kd.S_reads' G.at_.1.1.1.1.2).2.2 ((Kd.S_reads' G.at_.1.1.1.1.2).1 ▸ (Kd.S_reads' G.at_.1.1.1.1.2).2.1) (Kd.S_reads' G.at_.1.1.1.1.1.1.1.1.1.1.1.1.1.2).2.2 ((Kd.S_reads' G.at_.1.1.1.1.1.1.1.1.1.1.1.1.1.2).1 ▸ (Kd.S_reads' G.at_.1.1.1.1.1.1.1.1.1.1.1.1.1.2).2.1) F5.out).mono ?_; rintro e w1 ⟨rfl, hb⟩; refine ⟨_, rfl, ?_⟩; have G1 := (G.go hb); clear G hb; have G := G1; clear G1) | ((with_reducible refine gate_callee (f := 24) rfl ?_); refine gate_guard (by rfl) ?_; refine goesL_ (some 65) rfl rfl Try.func24 (by kernel_rfl) rfl #[.slice A33_1 mg.length c33_1, .slice A25_1 mg.length c25_1] rfl (by (try simp only [List.map_toArray, List.map_cons, List.map_nil]); first | done | rfl) ?_; refine (laws_eqAlarmS.calls k _ _ mg _ _ mg true _ (Kd.S_reads' G.at_.1.1.1.2).2.2 ((Kd.S_reads' G.at_.1.1.1.2).1 ▸ (Kd.S_reads' G.at_.1.1.1.2).2.1) (Kd.S_reads' G.at_.1.1.1.1.1.1.1.1.1.1.1.1.2).2.2 ((Kd.S_reads' G.at_.1.1.1.1.1.1.1.1.1.1.1.1.2).1 ▸ (Kd.S_reads' G.at_.1.1.1.1.1.1.1.1.1.1.1.1.2).2.1) F6.out).mono ?_; rintro e w1 ⟨rfl, hb⟩; refine ⟨_, rfl, ?_⟩; have G1 := (G.go hb); clear G hb; have G := G1; clear G1))
 (try clear zg9_0)
 (try clear zg9_1)
 (try clear zg6_0)
 (try clear zg6_1)
 go_upto_region 17 with (fail)
 obtain ⟨zg9_0, zg9_1⟩ := G.at_.1.2
 go_upto_region 18 with (first | ((with_reducible refine gate_callee (f := 25) rfl ?_); refine goesL_ (some 70) rfl rfl Try.func25 (by kernel_rfl) rfl #[.agg #[.int .i64 fo, .slice A33_0 mo.length c33_0], .int .i64 1] rfl (by (try simp only [List.map_toArray, List.map_cons, List.map_nil]); first | done | rfl) ?_; refine (laws_markChain.calls k (fun k_ => Iv loA33_0 hiA33_0 k_ ∧ Pd33 k_) fo _ _ mo 1 e2 m2 w _ G.at_.1.1.1.1.1.1.1.1.1.1.1.1.1.1.1.1.1.1.1 G.at_.1.1.1.1.2 F9.out).mono ?_; rintro e w1 ⟨rfl, hy, hb, hk⟩; refine ⟨_, rfl, ?_⟩; have G1 := ((((((((((((((((((((Gs.bel hb).add (Gs.top (Nat.le_trans G.at_.1.1.1.1.1.1.1.1.1.1.1.1.1.1.1.1.1.1.2 hk.1))).add (Gs.ofB2 (box2_kept G.at_.1.1.1.1.1.1.1.1.1.1.1.1.1.1.1.1.1.2 hk (fun h1_ => (by have h1_ := h1_.1; unfold Iv at *; have o0_ := Hg2.out; have o1_ := OA23_0.out; have o2_ := OA25_0.out; have o3_ := Hg6.out; have o4_ := OA29_0.out; have o5_ := Hg8.out; have o6_ := OA33_0.out; have o7_ := Hg9.out; omega))))).add (Gs.top (Nat.le_trans G.at_.1.1.1.1.1.1.1.1.1.1.1.1.1.1.1.1.2 hk.1))).add (Gs.ownS (Kd.S_kept G.at_.1.1.1.1.1.1.1.1.1.1.1.1.1.1.1.2 hk (fun k_ h1_ h2_ => (by have h2_ := h2_.1; unfold Iv at *; have o0_ := Hg2.out; have o1_ := OA23_0.out; have o2_ := OA25_0.out; have o3_ := Hg6.out; have o4_ := OA29_0.out; have o5_ := Hg8.out; have o6_ := OA33_0.out; have o7_ := Hg9.out; omega))))).add (Gs.top (Nat.le_trans G.at_.1.1.1.1.1.1.1.1.1.1.1.1.1.1.2 hk.1))).add (Gs.ownS (Kd.S_kept G.at_.1.1.1.1.1.1.1.1.1.1.1.1.1.2 hk (fun k_ h1_ h2_ => (by have h2_ := h2_.1; unfold Iv at *; have o0_ := Hg2.out; have o1_ := OA23_0.out; have o2_ := OA25_0.out; have o3_ := Hg6.out; have o4_ := OA29_0.out; have o5_ := Hg8.out; have o6_ := OA33_0.out; have o7_ := Hg9.out; omega))))).add (Gs.ownS (Kd.S_kept G.at_.1.1.1.1.1.1.1.1.1.1.1.1.2 hk (fun k_ h1_ h2_ => (by have h2_ := h2_.1; unfold Iv at *; have o0_ := Hg2.out; have o1_ := OA23_0.out; have o2_ := OA25_0.out; have o3_ := Hg6.out; have o4_ := OA29_0.out; have o5_ := Hg8.out; have o6_ := OA33_0.out; have o7_ := Hg9.out; omega))))).add (Gs.top (Nat.le_trans G.at_.1.1.1.1.1.1.1.1.1.1.1.2 hk.1))).add (Gs.ofB2 (box2_kept G.at_.1.1.1.1.1.1.1.1.1.1.2 hk (fun h1_ => (by have h1_ := h1_.1; unfold Iv at *; have o0_ := Hg2.out; have o1_ := OA23_0.out; have o2_ := OA25_0.out; have o3_ := Hg6.out; have o4_ := OA29_0.out; have o5_ := Hg8.out; have o6_ := OA33_0.out; have o7_ := Hg9.out; omega))))).add (Gs.top (Nat.le_trans G.at_.1.1.1.1.1.1.1.1.1.2 hk.1))).add (Gs.ownS (Kd.S_kept G.at_.1.1.1.1.1.1.1.1.2 hk (fun k_ h1_ h2_ => (by have h2_ := h2_.1; unfold Iv at *; have o0_ := Hg2.out; have o1_ := OA23_0.out; have o2_ := OA25_0.out; have o3_ := Hg6.out; have o4_ := OA29_0.out; have o5_ := Hg8.out; have o6_ := OA33_0.out; have o7_ := Hg9.out; omega))))).add (Gs.top (Nat.le_trans G.at_.1.1.1.1.1.1.1.2 hk.1))).add (Gs.ofB2 (box2_kept G.at_.1.1.1.1.1.1.2 hk (fun h1_ => (by have h1_ := h1_.1; unfold Iv at *; have o0_ := Hg2.out; have o1_ := OA23_0.out; have o2_ := OA25_0.out; have o3_ := Hg6.out; have o4_ := OA29_0.out; have o5_ := Hg8.out; have o6_ := OA33_0.out; have o7_ := Hg9.out; omega))))).add (Gs.top (Nat.le_trans G.at_.1.1.1.1.1.2 hk.1))).add (Gs.ownS hy)).add (Gs.ownS (Kd.S_kept G.at_.1.1.1.2 hk (fun k_ h1_ h2_ => h1_.2 h2_.2)))).add (Gs.top (Nat.le_trans G.at_.1.1.2 hk.1))).add (Gs.ofB2 (box2_kept G.at_.1.2 hk (fun h1_ => (by have h1_ := h1_.1; unfold Iv at *; have o0_ := Hg2.out; have o1_ := OA23_0.out; have o2_ := OA25_0.out; have o3_ := Hg6.out; have o4_ := OA29_0.out; have o5_ := Hg8.out; have o6_ := OA33_0.out; have o7_ := Hg9.out; omega))))).add (Gs.top (Nat.le_trans G.at_.2 hk.1))); have HLA33_0 := aM (Kd.S_reads' hy).1.symm; clear G hy hb hk; have G := G1; clear G1))
 (try clear zg9_0)
 (try clear zg9_1)
 go_upto_region 19 with (first | ((with_reducible refine gate_callee (f := 26) rfl ?_); refine goesL_ (some 73) rfl rfl Try.func26 (by kernel_rfl) rfl #[.slice A33_1 mg.length c33_1, .int .i64 e2] rfl (by (try simp only [List.map_toArray, List.map_cons, List.map_nil]); first | done | rfl) ?_; refine (laws_markAlarmS.calls k (fun k_ => Iv loA33_0 hiA33_0 k_ ∧ ¬ Pd33 k_) _ _ mg e2 e3 m3 w _ G.at_.1.1.1.1.1.1.1.1.1.1.1.1.1.1.1.1.1.1.1 G.at_.1.1.1.2 F10.out).mono ?_; rintro e w1 ⟨rfl, hy, hb, hk⟩; refine ⟨_, rfl, ?_⟩; have G1 := ((((((((((((((((((((Gs.bel hb).add (Gs.top (Nat.le_trans G.at_.1.1.1.1.1.1.1.1.1.1.1.1.1.1.1.1.1.1.2 hk.1))).add (Gs.ofB2 (box2_kept G.at_.1.1.1.1.1.1.1.1.1.1.1.1.1.1.1.1.1.2 hk (fun h1_ => (by have h1_ := h1_.1; unfold Iv at *; have o0_ := Hg2.out; have o1_ := OA23_0.out; have o2_ := OA25_0.out; have o3_ := Hg6.out; have o4_ := OA29_0.out; have o5_ := Hg8.out; have o6_ := OA33_0.out; have o7_ := Hg9.out; omega))))).add (Gs.top (Nat.le_trans G.at_.1.1.1.1.1.1.1.1.1.1.1.1.1.1.1.1.2 hk.1))).add (Gs.ownS (Kd.S_kept G.at_.1.1.1.1.1.1.1.1.1.1.1.1.1.1.1.2 hk (fun k_ h1_ h2_ => (by have h2_ := h2_.1; unfold Iv at *; have o0_ := Hg2.out; have o1_ := OA23_0.out; have o2_ := OA25_0.out; have o3_ := Hg6.out; have o4_ := OA29_0.out; have o5_ := Hg8.out; have o6_ := OA33_0.out; have o7_ := Hg9.out; omega))))).add (Gs.top (Nat.le_trans G.at_.1.1.1.1.1.1.1.1.1.1.1.1.1.1.2 hk.1))).add (Gs.ownS (Kd.S_kept G.at_.1.1.1.1.1.1.1.1.1.1.1.1.1.2 hk (fun k_ h1_ h2_ => (by have h2_ := h2_.1; unfold Iv at *; have o0_ := Hg2.out; have o1_ := OA23_0.out; have o2_ := OA25_0.out; have o3_ := Hg6.out; have o4_ := OA29_0.out; have o5_ := Hg8.out; have o6_ := OA33_0.out; have o7_ := Hg9.out; omega))))).add (Gs.ownS (Kd.S_kept G.at_.1.1.1.1.1.1.1.1.1.1.1.1.2 hk (fun k_ h1_ h2_ => (by have h2_ := h2_.1; unfold Iv at *; have o0_ := Hg2.out; have o1_ := OA23_0.out; have o2_ := OA25_0.out; have o3_ := Hg6.out; have o4_ := OA29_0.out; have o5_ := Hg8.out; have o6_ := OA33_0.out; have o7_ := Hg9.out; omega))))).add (Gs.top (Nat.le_trans G.at_.1.1.1.1.1.1.1.1.1.1.1.2 hk.1))).add (Gs.ofB2 (box2_kept G.at_.1.1.1.1.1.1.1.1.1.1.2 hk (fun h1_ => (by have h1_ := h1_.1; unfold Iv at *; have o0_ := Hg2.out; have o1_ := OA23_0.out; have o2_ := OA25_0.out; have o3_ := Hg6.out; have o4_ := OA29_0.out; have o5_ := Hg8.out; have o6_ := OA33_0.out; have o7_ := Hg9.out; omega))))).add (Gs.top (Nat.le_trans G.at_.1.1.1.1.1.1.1.1.1.2 hk.1))).add (Gs.ownS (Kd.S_kept G.at_.1.1.1.1.1.1.1.1.2 hk (fun k_ h1_ h2_ => (by have h2_ := h2_.1; unfold Iv at *; have o0_ := Hg2.out; have o1_ := OA23_0.out; have o2_ := OA25_0.out; have o3_ := Hg6.out; have o4_ := OA29_0.out; have o5_ := Hg8.out; have o6_ := OA33_0.out; have o7_ := Hg9.out; omega))))).add (Gs.top (Nat.le_trans G.at_.1.1.1.1.1.1.1.2 hk.1))).add (Gs.ofB2 (box2_kept G.at_.1.1.1.1.1.1.2 hk (fun h1_ => (by have h1_ := h1_.1; unfold Iv at *; have o0_ := Hg2.out; have o1_ := OA23_0.out; have o2_ := OA25_0.out; have o3_ := Hg6.out; have o4_ := OA29_0.out; have o5_ := Hg8.out; have o6_ := OA33_0.out; have o7_ := Hg9.out; omega))))).add (Gs.top (Nat.le_trans G.at_.1.1.1.1.1.2 hk.1))).add (Gs.ownS (Kd.S_kept G.at_.1.1.1.1.2 hk (fun k_ h1_ h2_ => h2_.2 h1_.2)))).add (Gs.ownS hy)).add (Gs.top (Nat.le_trans G.at_.1.1.2 hk.1))).add (Gs.ofB2 (box2_kept G.at_.1.2 hk (fun h1_ => (by have h1_ := h1_.1; unfold Iv at *; have o0_ := Hg2.out; have o1_ := OA23_0.out; have o2_ := OA25_0.out; have o3_ := Hg6.out; have o4_ := OA29_0.out; have o5_ := Hg8.out; have o6_ := OA33_0.out; have o7_ := Hg9.out; omega))))).add (Gs.top (Nat.le_trans G.at_.2 hk.1))); have HLA33_1 := aM (Kd.S_reads' hy).1.symm; clear G hy hb hk; have G := G1; clear G1))
 go_upto_region 20 with (fail)
 obtain ⟨zg9_0, zg9_1⟩ := G.at_.1.2
 go_upto_region 21 with (first | ((with_reducible refine gate_callee (f := 27) rfl ?_); refine goesL_ (some 76) rfl rfl Try.func27 (by kernel_rfl) rfl #[.agg #[.int .i64 fo, .slice A33_0 m2.length c33_0], .int .i64 1] rfl (by (try simp only [List.map_toArray, List.map_cons, List.map_nil]); first | done | rfl | (simp only [HLA29_0.out, HLA33_0.out, HLA33_1.out]; rfl)) ?_; refine (laws_heldChain.calls k fo _ _ m2 1 e2 _ (Kd.S_reads' G.at_.1.1.1.1.2).2.2 ((Kd.S_reads' G.at_.1.1.1.1.2).1 ▸ (Kd.S_reads' G.at_.1.1.1.1.2).2.1) F11.out).mono ?_; rintro e w1 ⟨rfl, hb⟩; refine ⟨_, rfl, ?_⟩; have G1 := (G.go hb); clear G hb; have G := G1; clear G1))
 (try clear zg9_0)
 (try clear zg9_1)
 have hk2_ := K2.out
 go_upto_region 23 with (fail)
 go_upto_region 24 with (first | ((with_reducible refine gate_callee (f := 28) rfl ?_); refine goesL_ (some 81) rfl rfl Try.func28 (by kernel_rfl) rfl #[.slice A33_1 m3.length c33_1, .int .i64 e2] rfl (by (try simp only [List.map_toArray, List.map_cons, List.map_nil]); first | done | rfl | (simp only [HLA29_0.out, HLA33_0.out, HLA33_1.out]; rfl)) ?_; refine (laws_heldAlarmS.calls k _ _ m3 e2 e3 _ (Kd.S_reads' G.at_.1.1.1.2).2.2 ((Kd.S_reads' G.at_.1.1.1.2).1 ▸ (Kd.S_reads' G.at_.1.1.1.2).2.1) F12.out).mono ?_; rintro e w1 ⟨rfl, hb⟩; refine ⟨_, rfl, ?_⟩; have G1 := (G.go hb); clear G hb; have G := G1; clear G1))
 have hk3_ := K3.out
 go_upto_region 26 with (fail)
 have hk4_ := K4.out
 go_upto_region 28 with (fail)
 obtain ⟨zg2_0, zg2_1⟩ := G.at_.1.1.1.1.1.1.1.1.1.1.1.1.1.1.1.1.1.2
 go_upto_region 29 with (first | ((with_reducible refine gate_callee (f := 21) rfl ?_); refine goesL_ (some 89) rfl rfl Try.func21 (by kernel_rfl) rfl #[.agg #[.int .i64 a0_0, .slice A0_1 l0_1.length c0_1]] rfl (by (try simp only [List.map_toArray, List.map_cons, List.map_nil]); first | done | rfl) ?_; refine (laws_toChain.calls k a0_0 _ _ l0_1 fc m0 _ (Kd.C_below HR0_1.out G.at_.1.1.1.1.1.1.1.1.1.1.1.1.1.1.1.1.1.1.1) Hc0_1.out F2.out).mono ?_; rintro e w1 ⟨v89_0, rfl, ho89_0, hb⟩; refine ⟨_, rfl, ?_⟩; obtain ⟨A89_0, c89_0, rfl, _, _⟩ := Kd.S_reads ho89_0; obtain ⟨loA89_0, hiA89_0, hOA89_0, hTA89_0, hSA89_0⟩ := newS G.at_.2 G.at_.1.1.1.1.1.1.1.1.1.1.1.1.1.1.1.1.1.1.1 hb ho89_0; have OA89_0 := aM hOA89_0; clear hOA89_0 ho89_0; have G1 := (((G.go hb).add (Gs.ownS hSA89_0)).add (Gs.top hTA89_0)); clear G hb hSA89_0 hTA89_0; have G := G1; clear G1) | ((with_reducible refine gate_callee (f := 22) rfl ?_); refine goesL_ (some 91) rfl rfl Try.func22 (by kernel_rfl) rfl #[.agg #[.int .i64 fc, .slice A89_0 m0.length c89_0], .int .i64 a1] rfl (by (try simp only [List.map_toArray, List.map_cons, List.map_nil]); first | done | rfl) ?_; refine (impl_DropOver2.calls k fc _ _ m0 a1 fo mo mg _ (Kd.S_reads' G.at_.1.2).2.2 ((Kd.S_reads' G.at_.1.2).1 ▸ (Kd.S_reads' G.at_.1.2).2.1) F4.out).mono ?_; rintro e w1 ⟨v91_0, v91_1, Pd91, rfl, ho91_0, ho91_1, hb⟩; refine ⟨_, rfl, ?_⟩; obtain ⟨A91_0, c91_0, rfl, _, _⟩ := Kd.S_reads ho91_0; obtain ⟨A91_1, c91_1, rfl, _, _⟩ := Kd.S_reads ho91_1; obtain ⟨loA91_0, hiA91_0, hOA91_0, hTA91_0, hSA91_0, hSA91_1⟩ := new2P G.at_.2 G.at_.1.1.1.1.1.1.1.1.1.1.1.1.1.1.1.1.1.1.1.1.1 hb ho91_0 ho91_1; have OA91_0 := aM hOA91_0; clear hOA91_0 ho91_0 ho91_1; have G1 := ((((G.go hb).add (Gs.ownS hSA91_0)).add (Gs.ownS hSA91_1)).add (Gs.top hTA91_0)); clear G hb hSA91_0 hSA91_1 hTA91_0; have G := G1; clear G1) | ((with_reducible refine gate_dst (N := 14) rfl ?_); refine box_event ?hg (N := 14) ?hd (cs := #[.int .i64 0, .slice none 0 0]) (t := 39) ?hr ?_; (case hd => rfl); (case hg => rfl); (case hr => first | (go_simp; done) | (go_simp; rfl)); intro g14 hg w2 hbox hb; have Hg14 := aM (show hiA91_0 ≤ g14 from hg ▸ G.at_.2); have HB_g14 := aM hb; have HE_g14 := aM hg; have BK_g14 := aM hbox; have zg14_0 := cz2_0 ⟨hbox⟩; have yg14_0 := blk_frozen hbox 0; have zg14_1 := cz2_1 ⟨hbox⟩; have yg14_1 := blk_frozen hbox 1; clear hb hbox hg))
 (try clear zg2_0)
 (try clear zg2_1)
 (try clear zg14_0)
 (try clear yg14_0)
 (try clear zg14_1)
 (try clear yg14_1)
 have G1 := ((Gs.put2 (.int .i64 fo) (.slice A91_0 mo.length c91_0) G HB_g14 HE_g14 BK_g14)).add (Gs.top (Nat.succ_le_of_lt (blk_lt (set2_blk BK_g14.out))))
 clear G; have G := G1; clear G1
 generalize ((w2.setCell ⟨g14, 0, none⟩ (.int .i64 fo)).setCell ⟨g14, 1, none⟩ (.slice A91_0 mo.length c91_0)) = w3 at G ⊢
 clear HB_g14 HE_g14 BK_g14
 obtain ⟨zg14_0, zg14_1⟩ := G.at_.1.2
 obtain ⟨zg6_0, zg6_1⟩ := G.at_.1.1.1.1.1.1.1.1.1.1.1.1.1.1.1.1.1.2
 go_upto_region 31 with (first | ((with_reducible refine gate_callee (f := 23) rfl ?_); refine goesL_ (some 96) rfl rfl Try.func23 (by kernel_rfl) rfl #[.agg #[.int .i64 fo, .slice A91_0 mo.length c91_0], .agg #[.int .i64 fo, .slice A25_0 mo.length c25_0]] rfl (by (try simp only [List.map_toArray, List.map_cons, List.map_nil]); first | done | rfl) ?_; refine (laws_eqChain.calls k fo _ _ mo fo _ _ mo true _ (Kd.S_reads' G.at_.1.1.1.1.2).2.2 ((Kd.S_reads' G.at_.1.1.1.1.2).1 ▸ (Kd.S_reads' G.at_.1.1.1.1.2).2.1) (Kd.S_reads' G.at_.1.1.1.1.1.1.1.1.1.1.1.1.1.1.1.1.1.1.1.1.2).2.2 ((Kd.S_reads' G.at_.1.1.1.1.1.1.1.1.1.1.1.1.1.1.1.1.1.1.1.1.2).1 ▸ (Kd.S_reads' G.at_.1.1.1.1.1.1.1.1.1.1.1.1.1.1.1.1.1.1.1.1.2).2.1) F5.out).mono ?_; rintro e w1 ⟨rfl, hb⟩; refine ⟨_, rfl, ?_⟩; have G1 := (G.go hb); clear G hb; have G := G1; clear G1) | ((with_reducible refine gate_callee (f := 24) rfl ?_); refine gate_guard (by rfl) ?_; refine goesL_ (some 101) rfl rfl Try.func24 (by kernel_rfl) rfl #[.slice A91_1 mg.length c91_1, .slice A25_1 mg.length c25_1] rfl (by (try simp only [List.map_toArray, List.map_cons, List.map_nil]); first | done | rfl) ?_; refine (laws_eqAlarmS.calls k _ _ mg _ _ mg true _ (Kd.S_reads' G.at_.1.1.1.2).2.2 ((Kd.S_reads' G.at_.1.1.1.2).1 ▸ (Kd.S_reads' G.at_.1.1.1.2).2.1) (Kd.S_reads' G.at_.1.1.1.1.1.1.1.1.1.1.1.1.1.1.1.1.1.1.1.2).2.2 ((Kd.S_reads' G.at_.1.1.1.1.1.1.1.1.1.1.1.1.1.1.1.1.1.1.1.2).1 ▸ (Kd.S_reads' G.at_.1.1.1.1.1.1.1.1.1.1.1.1.1.1.1.1.1.1.1.2).2.1) F6.out).mono ?_; rintro e w1 ⟨rfl, hb⟩; refine ⟨_, rfl, ?_⟩; have G1 := (G.go hb); clear G hb; have G := G1; clear G1))
 (try clear zg14_0)
 (try clear zg14_1)
 (try clear zg6_0)
 (try clear zg6_1)
 go_upto_region 32 with (fail)
 obtain ⟨zg9_0, zg9_1⟩ := G.at_.1.1.1.1.1.1.1.1.2
 go_upto_region 33 with (first | ((with_reducible refine gate_callee (f := 27) rfl ?_); refine goesL_ (some 106) rfl rfl Try.func27 (by kernel_rfl) rfl #[.agg #[.int .i64 fo, .slice A33_0 m2.length c33_0], .int .i64 1] rfl (by (try simp only [List.map_toArray, List.map_cons, List.map_nil]); first | done | rfl | (simp only [HLA29_0.out, HLA33_0.out, HLA33_1.out]; rfl)) ?_; refine (laws_heldChain.calls k fo _ _ m2 1 e2 _ (Kd.S_reads' G.at_.1.1.1.1.1.1.1.1.1.1.1.2).2.2 ((Kd.S_reads' G.at_.1.1.1.1.1.1.1.1.1.1.1.2).1 ▸ (Kd.S_reads' G.at_.1.1.1.1.1.1.1.1.1.1.1.2).2.1) F11.out).mono ?_; rintro e w1 ⟨rfl, hb⟩; refine ⟨_, rfl, ?_⟩; have G1 := (G.go hb); clear G hb; have G := G1; clear G1))
 (try clear zg9_0)
 (try clear zg9_1)
 have hk2_ := K2.out
 go_upto_region 35 with (fail)
 go_upto_region 36 with (first | ((with_reducible refine gate_callee (f := 28) rfl ?_); refine goesL_ (some 111) rfl rfl Try.func28 (by kernel_rfl) rfl #[.slice A33_1 m3.length c33_1, .int .i64 e2] rfl (by (try simp only [List.map_toArray, List.map_cons, List.map_nil]); first | done | rfl | (simp only [HLA29_0.out, HLA33_0.out, HLA33_1.out]; rfl)) ?_; refine (laws_heldAlarmS.calls k _ _ m3 e2 e3 _ (Kd.S_reads' G.at_.1.1.1.1.1.1.1.1.1.1.2).2.2 ((Kd.S_reads' G.at_.1.1.1.1.1.1.1.1.1.1.2).1 ▸ (Kd.S_reads' G.at_.1.1.1.1.1.1.1.1.1.1.2).2.1) F12.out).mono ?_; rintro e w1 ⟨rfl, hb⟩; refine ⟨_, rfl, ?_⟩; have G1 := (G.go hb); clear G hb; have G := G1; clear G1))
 have hk3_ := K3.out
 go_upto_region 38 with (fail)
 have hk4_ := K4.out
 go_upto_region 40 with (fail)
 try go_wp2
 try go_wp2
 go_ret
 exact ⟨rfl, G.at_.1.1.1.1.1.1.1.1.1.1.1.1.1.1.1.1.1.1.1.1.1.1.1.1.1.1⟩
/-- What each call of the law gives, at rounds k. -/
def laws_FnExactDropOver.Facts (k : Nat) (a0_0 : Int) (l0_1 : List S62) (a1 : Int) : Prop := (∃ (q1 : Int), (laws_szChain.f k a0_0 l0_1 1048576 = some q1) ∧
  (decide (q1 < 0) = true)) ∨
  (∃ (q1 : Int) (fc : Int) (m0 : List (S26)) (fo : Int) (mo : List (S26)) (mg : List (S26)) (e1 : Int) (m1 : List (S26)) (e2 : Int) (m2 : List (S26)) (e3 : Int) (m3 : List (S26)), (laws_szChain.f k a0_0 l0_1 1048576 = some q1) ∧
  (laws_toChain.f k a0_0 l0_1 = some (fc, m0)) ∧
  (spec_DropOver.f k fc m0 a1 = some (fo, mo, mg)) ∧
  (impl_DropOver2.f k fc m0 a1 = some (fo, mo, mg)) ∧
  (laws_eqChain.f k fo mo fo mo = some true) ∧
  (laws_eqAlarmS.f k mg mg = some true) ∧
  (laws_eqChain.f k fc m0 fc m0 = some true) ∧
  (laws_markChain.f k fc m0 1 = some (e1, m1)) ∧
  (laws_markChain.f k fo mo 1 = some (e2, m2)) ∧
  (laws_markAlarmS.f k mg e2 = some (e3, m3)) ∧
  (laws_heldChain.f k fo m2 1 = some e2) ∧
  (laws_heldAlarmS.f k m3 e2 = some e3) ∧
  (decide (q1 < 0) = false) ∧
  (decide (e1 < 0) = false) ∧
  (decide (e2 < 0) = false) ∧
  (decide (e3 < 0) = false) ∧
  ((e3 != e3) = false))
open Classical in
/-- What the law gives: true, where each call gives what the way wants. -/
noncomputable def laws_FnExactDropOver.f (k : Nat) (a0_0 : Int) (l0_1 : List S62) (a1 : Int) : Option (Bool) := if laws_FnExactDropOver.Facts k a0_0 l0_1 a1 then some true else none
theorem laws_FnExactDropOver.f_of {k : Nat} {a0_0 : Int} {l0_1 : List S62} {a1 : Int} (h : laws_FnExactDropOver.Facts k a0_0 l0_1 a1) : laws_FnExactDropOver.f k a0_0 l0_1 a1 = some true := if_pos h
theorem laws_FnExactDropOver.calls (k : Nat) (a0_0 : Int) (A0_1 : Option Addr) (c0_1 : Nat) (l0_1 : List S62) (a1 : Int) (r : Bool) (w : World) (hr0_1 : Kd.C k62 w A0_1 l0_1.length l0_1) (hc0_1 : l0_1.length ≤ c0_1) (hr_ : Aside0 (r = true)) (h : laws_FnExactDropOver.f k a0_0 l0_1 a1 = some r) :
    Calls Try.prog 4 #[.agg #[.int .i64 a0_0, .slice A0_1 l0_1.length c0_1], .int .i64 a1] w fun e w' => e = .returned (.bool r) ∧ Below w.heap.size w w' := by
 unfold laws_FnExactDropOver.f at h
 by_cases hf : laws_FnExactDropOver.Facts k a0_0 l0_1 a1
 · rw [if_pos hf] at h
   obtain rfl := Option.some.inj h
   rcases hf with hf | hf
   · obtain ⟨q1, h_0, h_1⟩ := hf
     exact laws_FnExactDropOver.early1 k a0_0 A0_1 c0_1 l0_1 a1 w hr0_1 hc0_1 q1 ⟨h_0⟩ ⟨h_1⟩
   · obtain ⟨q1, fc, m0, fo, mo, mg, e1, m1, e2, m2, e3, m3, h_0, h_1, h_2, h_3, h_4, h_5, h_6, h_7, h_8, h_9, h_10, h_11, h_12, h_13, h_14, h_15, h_16⟩ := hf
     exact laws_FnExactDropOver.way k a0_0 A0_1 c0_1 l0_1 a1 w hr0_1 hc0_1 q1 fc m0 fo mo mg e1 m1 e2 m2 e3 m3 ⟨h_0⟩ ⟨h_1⟩ ⟨h_2⟩ ⟨h_3⟩ ⟨h_4⟩ ⟨h_5⟩ ⟨h_6⟩ ⟨h_7⟩ ⟨h_8⟩ ⟨h_9⟩ ⟨h_10⟩ ⟨h_11⟩ ⟨h_12⟩ ⟨h_13⟩ ⟨h_14⟩ ⟨h_15⟩ ⟨h_16⟩
 · rw [if_neg hf] at h
   cases h
end Go.Proofs.Ytgindocfjoalhaa.PFnExactDropOver
