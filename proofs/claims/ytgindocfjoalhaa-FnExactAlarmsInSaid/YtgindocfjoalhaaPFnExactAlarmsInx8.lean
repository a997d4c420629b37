/- That FnExactAlarmsIn answers true, out of what each of its calls gives; no conditions. -/
import Derived.Test.YtgindocfjoalhaaPFnExactAlarmsInx0
import Derived.Test.YtgindocfjoalhaaPFnExactAlarmsInx1
import Derived.Test.YtgindocfjoalhaaPFnExactAlarmsInx2
import Derived.Test.YtgindocfjoalhaaPFnExactAlarmsInx3
import Derived.Test.YtgindocfjoalhaaPFnExactAlarmsInx4
import Derived.Test.YtgindocfjoalhaaPFnExactAlarmsInx5
import Derived.Test.YtgindocfjoalhaaPFnExactAlarmsInx6
import Derived.Test.YtgindocfjoalhaaPFnExactAlarmsInx7
namespace Go.Proofs.Ytgindocfjoalhaa.PFnExactAlarmsIn
open Go.RowKit Go.Proofs.YtgindocfjoalhaaW.PrintWords Go.Proofs.YtgindocfjoalhaaW.PrintLast Go.Proofs.YtgindocfjoalhaaW.PrintMore
attribute [local go_sem] max2_int min2_int max_two min_two max_three min_three max_four min_four   -- for this text's walks alone
set_option linter.unusedVariables false
set_option linter.unusedSimpArgs false

/-- What is told of the world stays told where only new blocks come up. -/
structure Gs (Φ : World → Prop) (W : World) : Prop where
  at_ : Φ W
  st : ∀ {V V' : World}, Below V.heap.size V V' → Φ V → Φ V'
theorem Gs.go {Φ : World → Prop} {W W' : World} (h : Gs Φ W) (hb : Below W.heap.size W W') : Gs Φ W' := ⟨h.st hb h.at_, h.st⟩
theorem Gs.add {Φ Ψ : World → Prop} {W : World} (h : Gs Φ W) (k : Gs Ψ W) : Gs (fun w => Φ w ∧ Ψ w) W := ⟨⟨h.at_, k.at_⟩, fun hb hp => ⟨h.st hb hp.1, k.st hb hp.2⟩⟩
theorem Gs.left {Φ Ψ : World → Prop} {W : World} (h : Gs Φ W) (hd : ∀ {V V' : World}, Below V.heap.size V V' → Ψ V → Ψ V') (hk : ∀ w, Φ w → Ψ w) : Gs Ψ W := ⟨hk W h.at_, hd⟩
theorem Gs.hide {Φ : World → Prop} {W : World} {C : Prop} (G : Gs Φ W) (h : ∀ Ψ : World → Prop, Gs Ψ W → (∀ V, Ψ V → Φ V) → (∀ V, Gs Ψ V → Gs Φ V) → C) : C := h Φ G (fun _ h => h) (fun _ h => h)
theorem Gs.below (w : World) : Gs (fun W => Below w.heap.size w W) w := ⟨Below.refl _ _, fun hb h => below_step h hb⟩
theorem Gs.cell {a : Addr} {v : Value} {W : World} (h : W.cell? a = some v) : Gs (fun W => W.cell? a = some v) W := ⟨h, fun hb h => pw_cell_below hb h⟩
theorem Gs.row {α : Type} {d : Kd α} {A : Option Addr} {n : Nat} {xs : List α} {W : World} (h : d.C W A n xs) : Gs (fun W => d.C W A n xs) W := ⟨h, fun hb h => Kd.C_below h hb⟩
def box4 (g : Nat) (b0 b1 b2 b3 : Value) (w : World) : Prop := w.cell? ⟨g, 0, none⟩ = some b0 ∧ w.cell? ⟨g, 1, none⟩ = some b1 ∧ w.cell? ⟨g, 2, none⟩ = some b2 ∧ w.cell? ⟨g, 3, none⟩ = some b3
theorem Gs.ofBox4 {g : Nat} {t : TypeId} {b0 b1 b2 b3 : Value} {W : World} (h : W.heap[g]? = some (.cells #[b0, b1, b2, b3] t (0, 0))) : Gs (box4 g b0 b1 b2 b3) W :=
  ⟨⟨(blk_cell h 0).trans rfl, (blk_cell h 1).trans rfl, (blk_cell h 2).trans rfl, (blk_cell h 3).trans rfl⟩, fun hb h => ⟨pw_cell_below hb h.1, pw_cell_below hb h.2.1, pw_cell_below hb h.2.2.1, pw_cell_below hb h.2.2.2⟩⟩
theorem set4_blk {W : World} {g : Nat} {t : TypeId} {c0 c1 c2 c3 b0 b1 b2 b3 : Value} (h : W.heap[g]? = some (.cells #[c0, c1, c2, c3] t (0, 0))) :
    ((((W.setCell ⟨g, 0, none⟩ b0).setCell ⟨g, 1, none⟩ b1).setCell ⟨g, 2, none⟩ b2).setCell ⟨g, 3, none⟩ b3).heap[g]? = some (.cells #[b0, b1, b2, b3] t (0, 0)) :=
  blk_put (blk_put (blk_put (blk_put h 0 b0 rfl) 1 b1 rfl) 2 b2 rfl) 3 b3 rfl
theorem set4_far {W : World} {g k : Nat} {o : Obj} {b0 b1 b2 b3 : Value} (h : W.heap[k]? = some o) (hk : k ≠ g) :
    ((((W.setCell ⟨g, 0, none⟩ b0).setCell ⟨g, 1, none⟩ b1).setCell ⟨g, 2, none⟩ b2).setCell ⟨g, 3, none⟩ b3).heap[k]? = some o :=
  (Below.heap_setCell _ ⟨g, 3, none⟩ b3 k hk).trans ((Below.heap_setCell _ ⟨g, 2, none⟩ b2 k hk).trans ((Below.heap_setCell _ ⟨g, 1, none⟩ b1 k hk).trans ((Below.heap_setCell _ ⟨g, 0, none⟩ b0 k hk).trans h)))
theorem set4_below {V W : World} {g : Nat} {b0 b1 b2 b3 : Value} (h : Below V.heap.size V W) (hg : V.heap.size ≤ g) :
    Below V.heap.size V ((((W.setCell ⟨g, 0, none⟩ b0).setCell ⟨g, 1, none⟩ b1).setCell ⟨g, 2, none⟩ b2).setCell ⟨g, 3, none⟩ b3) :=
  below_set (below_set (below_set (below_set h hg) hg) hg) hg
/-- A variable of four cells, made and written. -/
theorem Gs.put4 {Φ : World → Prop} {V W : World} {g : Nat} {t : TypeId} {c0 c1 c2 c3 : Value} (b0 b1 b2 b3 : Value) (G : Gs Φ V) (hb : Aside0 (Below V.heap.size V W)) (hg : Aside0 (g = V.heap.size)) (hx : Aside0 (W.heap[g]? = some (.cells #[c0, c1, c2, c3] t (0, 0)))) :
    Gs (fun w => Φ w ∧ box4 g b0 b1 b2 b3 w) ((((W.setCell ⟨g, 0, none⟩ b0).setCell ⟨g, 1, none⟩ b1).setCell ⟨g, 2, none⟩ b2).setCell ⟨g, 3, none⟩ b3) :=
  (G.go (set4_below hb.out (Nat.le_of_eq hg.out.symm))).add (Gs.ofBox4 (set4_blk hx.out))
/-- Two variables of four cells, made, then written. -/
theorem Gs.put44 {Φ : World → Prop} {V W X : World} {g g' : Nat} {t t' : TypeId} {c0 c1 c2 c3 c0' c1' c2' c3' : Value} (b0 b1 b2 b3 b0' b1' b2' b3' : Value) (G : Gs Φ V) (hb : Aside0 (Below V.heap.size V W)) (hg : Aside0 (g = V.heap.size)) (hx : Aside0 (W.heap[g]? = some (.cells #[c0, c1, c2, c3] t (0, 0))))
    (hb' : Aside0 (Below W.heap.size W X)) (hg' : Aside0 (g' = W.heap.size)) (hx' : Aside0 (X.heap[g']? = some (.cells #[c0', c1', c2', c3'] t' (0, 0)))) :
    Gs (fun w => (Φ w ∧ box4 g b0 b1 b2 b3 w) ∧ box4 g' b0' b1' b2' b3' w) ((((((((X.setCell ⟨g, 0, none⟩ b0).setCell ⟨g, 1, none⟩ b1).setCell ⟨g, 2, none⟩ b2).setCell ⟨g, 3, none⟩ b3).setCell ⟨g', 0, none⟩ b0').setCell ⟨g', 1, none⟩ b1').setCell ⟨g', 2, none⟩ b2').setCell ⟨g', 3, none⟩ b3') := by
  have hlt := blk_lt hx.out
  have hne : g ≠ g' := by rw [hg'.out]; omega
  have e1 : V.heap.size ≤ g := Nat.le_of_eq hg.out.symm
  have e2 : V.heap.size ≤ g' := by rw [hg'.out]; exact hb.out.size
  exact ((G.go (set4_below (set4_below (below_step hb.out hb'.out) e1) e2)).add (Gs.ofBox4 (set4_far (set4_blk (blk_below hx.out hb'.out)) hne))).add (Gs.ofBox4 (set4_blk (set4_far hx'.out (Ne.symm hne))))
section
open Go.Proofs.YtgindocfjoalhaaW.PrintLast
variable {P : Program} {ops : Array Oper} {Q : Exit → Act → World → Prop} {Φ : World → Prop} {n m fuel : Nat} {a : Act} {w : World} {T : Bool × List (List Nat × List Nat)} {B : List Nat}
theorem bz_nil (n : Nat) : Array.replicate n false = bz n 0 := by
  unfold bz
  rw [List.map_eq_replicate_iff.2 (fun x _ => Nat.zero_testBit x)]
  simp
/-- A region that draws its order, at its head. -/
theorem reg {id : Nat} (G : Gs Φ w) (hm : P.follows .mixedOrders = true) (hn : ops.size = n) (hT : rtab .any ops = T) (hB : waitsOk T.2 B = true)
    (h : ∀ W, Below w.heap.size w W → Gs Φ W → Aside0 (rtab .any ops = T) → Aside0 (waitsOk T.2 B = true) → wpAnyLast P .any ops Q Φ [] n (bz n 0) a W) : (Code.region id ops true).wp P Q a w :=
  start_ (bz n 0) hm hn (bz_nil n) (G.go (below_drew (Below.refl _ _))).at_ (fun _ => h _ (below_drew (Below.refl _ _)) (G.go (below_drew (Below.refl _ _))) ⟨hT⟩ ⟨hB⟩)
/-- A call in such a region. -/
theorem rc {oi : Oper} (i : Nat) (t : Tmp) (m' : Nat) (HT : Aside0 (rtab .any ops = T)) (hi : ops[i]? = some oi) (hN : oi.dst = some t) (hc : (readyT T.2 (bz n m).toList == [i] && (bz n m).toList.set i true == (bz n m').toList) = true)
    {f : FuncId} {fn : Func} {ars : Array Operand} {ts : Array TypeId} (hf : P.funcs[f]? = some fn) (hname : (fn.name == "runtime.NumGoroutine") = false) (hb : fn.body.isSome = true) (hop : oi.op = .call { callee := .value (.func f), args := ars, argTypes := ts }) (args : Array Value)
    (hw : Region.wanted oi (yielded ops a.tmps) = true) (hargs : ars.map a.eval = args)
    (h : Calls P f args w fun e w' => ∃ v, e = .returned v ∧ Φ w' ∧ ∀ a', a.put (some t) v = a' → wpAnyLast P .any ops Q Φ [] fuel (bz n m') a' w') : wpAnyLast P .any ops Q Φ [] (fuel + 1) (bz n m) a w := by
  refine one_ (bz n m') hi hN (one_of HT.out hc) (by simp) (fun K hK => ?_)
  refine goes_ hf hname hb args hw hN hop hargs (h.mono fun e w' hh => ?_)
  obtain ⟨v, he, hp, hr⟩ := hh
  exact ⟨v, he, hK.out _ _ hp (fun _ => hr _ rfl)⟩
end
/-- Block numbers from lo to hi. -/
def Iv (lo hi k : Nat) : Prop := lo ≤ k ∧ k < hi
theorem Gs.top {T : Nat} {W : World} (h : T ≤ W.heap.size) : Gs (fun W => T ≤ W.heap.size) W := ⟨h, fun hb h => Nat.le_trans h hb.size⟩
theorem Gs.bel {w W : World} (h : Below w.heap.size w W) : Gs (fun W => Below w.heap.size w W) W := ⟨h, fun hb h => below_step h hb⟩
theorem Gs.ownS {α : Type} {d : Kd α} {e base : Nat} {ok : Nat → Prop} {v : Value} {xs : List α} {W : World} (h : Kd.S d e W base ok v xs) : Gs (fun W => Kd.S d e W base ok v xs) W := ⟨h, fun hb h => Kd.S_below h hb⟩
theorem Gs.ownR {α : Type} {d : Kd α} {e base : Nat} {ok : Nat → Prop} {v : Value} {xs : List α} {W : World} (h : d.R e W base ok v xs) : Gs (fun W => d.R e W base ok v xs) W := ⟨h, fun hb h => Kd.R_below h hb⟩
theorem newS {α : Type} {d : Kd α} {e T : Nat} {w0 W w1 : World} {ok : Nat → Prop} {v : Value} {xs : List α} (hT : T ≤ W.heap.size) (hb0 : Below w0.heap.size w0 W) (hb : Below W.heap.size W w1) (h : Kd.S d e w1 W.heap.size ok v xs) : ∃ lo hi, (T ≤ lo ∧ lo ≤ hi) ∧ hi ≤ w1.heap.size ∧ Kd.S d e w1 w0.heap.size (Iv lo hi) v xs :=
  ⟨W.heap.size, w1.heap.size, ⟨hT, hb.size⟩, Nat.le_refl _, Kd.S_lower (Kd.S_mono (Kd.S_bound h) (fun k hk => ⟨hk.2.1, hk.2.2.1⟩)) hb0.size⟩
theorem newR {α : Type} {d : Kd α} {e T : Nat} {w0 W w1 : World} {ok : Nat → Prop} {v : Value} {xs : List α} (hT : T ≤ W.heap.size) (hb0 : Below w0.heap.size w0 W) (hb : Below W.heap.size W w1) (h : d.R e w1 W.heap.size ok v xs) : ∃ lo hi, (T ≤ lo ∧ lo ≤ hi) ∧ hi ≤ w1.heap.size ∧ d.R e w1 w0.heap.size (Iv lo hi) v xs :=
  ⟨W.heap.size, w1.heap.size, ⟨hT, hb.size⟩, Nat.le_refl _, Kd.R_lower (Kd.R_mono (Kd.R_bound h) (fun k hk => ⟨hk.2.1, hk.2.2.1⟩)) hb0.size⟩
theorem new2 {α β : Type} {d : Kd α} {d' : Kd β} {e e' T : Nat} {w0 W w1 : World} {ok ok' : Nat → Prop} {v v' : Value} {xs : List α} {ys : List β} (hT : T ≤ W.heap.size) (hb0 : Below w0.heap.size w0 W) (hb : Below W.heap.size W w1) (h : Kd.S d e w1 W.heap.size ok v xs) (h' : Kd.S d' e' w1 W.heap.size ok' v' ys) : ∃ lo hi, (T ≤ lo ∧ lo ≤ hi) ∧ hi ≤ w1.heap.size ∧ Kd.S d e w1 w0.heap.size (fun k_ => Iv lo hi k_) v xs ∧ Kd.S d' e' w1 w0.heap.size (fun k_ => Iv lo hi k_) v' ys :=
  ⟨W.heap.size, w1.heap.size, ⟨hT, hb.size⟩, Nat.le_refl _, Kd.S_lower (Kd.S_mono (Kd.S_bound h) (fun k hk => ⟨hk.2.1, hk.2.2.1⟩)) hb0.size, Kd.S_lower (Kd.S_mono (Kd.S_bound h') (fun k hk => ⟨hk.2.1, hk.2.2.1⟩)) hb0.size⟩
theorem new2P {α β : Type} {d : Kd α} {d' : Kd β} {e e' T : Nat} {w0 W w1 : World} {P : Nat → Prop} {v v' : Value} {xs : List α} {ys : List β} (hT : T ≤ W.heap.size) (hb0 : Below w0.heap.size w0 W) (hb : Below W.heap.size W w1) (h : Kd.S d e w1 W.heap.size (fun k_ => P k_) v xs) (h' : Kd.S d' e' w1 W.heap.size (fun k_ => ¬ P k_) v' ys) : ∃ lo hi, (T ≤ lo ∧ lo ≤ hi) ∧ hi ≤ w1.heap.size ∧ Kd.S d e w1 w0.heap.size (fun k_ => Iv lo hi k_ ∧ P k_) v xs ∧ Kd.S d' e' w1 w0.heap.size (fun k_ => Iv lo hi k_ ∧ ¬ P k_) v' ys :=
  ⟨W.heap.size, w1.heap.size, ⟨hT, hb.size⟩, Nat.le_refl _, Kd.S_lower (Kd.S_mono (Kd.S_bound h) (fun k hk => ⟨⟨hk.2.1, hk.2.2.1⟩, hk.1⟩)) hb0.size, Kd.S_lower (Kd.S_mono (Kd.S_bound h') (fun k hk => ⟨⟨hk.2.1, hk.2.2.1⟩, hk.1⟩)) hb0.size⟩
theorem Gs.blk {g : Nat} {t : TypeId} {cs : Array Value} {W : World} (h : W.heap[g]? = some (.cells cs t (0, 0))) : Gs (fun W => W.heap[g]? = some (.cells cs t (0, 0))) W := ⟨h, fun hb h => blk_below h hb⟩
def box2 (g : Nat) (b0 b1 : Value) (w : World) : Prop := w.cell? ⟨g, 0, none⟩ = some b0 ∧ w.cell? ⟨g, 1, none⟩ = some b1
theorem Gs.ofBox2 {g : Nat} {t : TypeId} {b0 b1 : Value} {W : World} (h : W.heap[g]? = some (.cells #[b0, b1] t (0, 0))) : Gs (box2 g b0 b1) W := ⟨⟨(blk_cell h 0).trans rfl, (blk_cell h 1).trans rfl⟩, fun hb h => ⟨pw_cell_below hb h.1, pw_cell_below hb h.2⟩⟩
theorem set2_blk {W : World} {g : Nat} {t : TypeId} {c0 c1 b0 b1 : Value} (hx : W.heap[g]? = some (.cells #[c0, c1] t (0, 0))) : ((W.setCell ⟨g, 0, none⟩ b0).setCell ⟨g, 1, none⟩ b1).heap[g]? = some (.cells #[b0, b1] t (0, 0)) := (blk_put (blk_put hx 0 b0 rfl) 1 b1 rfl)
theorem set2_far {W : World} {g k : Nat} {o : Obj} {b0 b1 : Value} (h : W.heap[k]? = some o) (hk : k ≠ g) : ((W.setCell ⟨g, 0, none⟩ b0).setCell ⟨g, 1, none⟩ b1).heap[k]? = some o := ((Below.heap_setCell _ ⟨g, 1, none⟩ b1 k hk).trans ((Below.heap_setCell _ ⟨g, 0, none⟩ b0 k hk).trans h))
theorem set2_below {V W : World} {g : Nat} {b0 b1 : Value} (h : Below V.heap.size V W) (hg : V.heap.size ≤ g) : Below V.heap.size V ((W.setCell ⟨g, 0, none⟩ b0).setCell ⟨g, 1, none⟩ b1) := (below_set (below_set h hg) hg)
theorem Gs.put2 {Φ : World → Prop} {V W : World} {g : Nat} {t : TypeId} {c0 c1 : Value} (b0 b1 : Value) (G : Gs Φ V) (hb : Aside0 (Below V.heap.size V W)) (hg : Aside0 (g = V.heap.size)) (hx : Aside0 (W.heap[g]? = some (.cells #[c0, c1] t (0, 0)))) :
    Gs (fun w => Φ w ∧ box2 g b0 b1 w) ((W.setCell ⟨g, 0, none⟩ b0).setCell ⟨g, 1, none⟩ b1) :=
  (G.go (set2_below hb.out (Nat.le_of_eq hg.out.symm))).add (Gs.ofBox2 (set2_blk hx.out))
theorem box2_kept {g : Nat} {b0 b1 : Value} {W W2 : World} {S : Nat → Prop} (h : box2 g b0 b1 W) (hk : Kept W W2 S) (hn : ¬ S g) : box2 g b0 b1 W2 := ⟨cell_kept h.1 hk hn, cell_kept h.2 hk hn⟩
theorem Gs.ofB2 {g : Nat} {b0 b1 : Value} {W : World} (h : box2 g b0 b1 W) : Gs (box2 g b0 b1) W := ⟨h, fun hb h => ⟨pw_cell_below hb h.1, pw_cell_below hb h.2⟩⟩
def box3 (g : Nat) (b0 b1 b2 : Value) (w : World) : Prop := w.cell? ⟨g, 0, none⟩ = some b0 ∧ w.cell? ⟨g, 1, none⟩ = some b1 ∧ w.cell? ⟨g, 2, none⟩ = some b2
theorem Gs.ofBox3 {g : Nat} {t : TypeId} {b0 b1 b2 : Value} {W : World} (h : W.heap[g]? = some (.cells #[b0, b1, b2] t (0, 0))) : Gs (box3 g b0 b1 b2) W := ⟨⟨(blk_cell h 0).trans rfl, (blk_cell h 1).trans rfl, (blk_cell h 2).trans rfl⟩, fun hb h => ⟨pw_cell_below hb h.1, pw_cell_below hb h.2.1, pw_cell_below hb h.2.2⟩⟩
theorem set3_blk {W : World} {g : Nat} {t : TypeId} {c0 c1 c2 b0 b1 b2 : Value} (hx : W.heap[g]? = some (.cells #[c0, c1, c2] t (0, 0))) : (((W.setCell ⟨g, 0, none⟩ b0).setCell ⟨g, 1, none⟩ b1).setCell ⟨g, 2, none⟩ b2).heap[g]? = some (.cells #[b0, b1, b2] t (0, 0)) := (blk_put (blk_put (blk_put hx 0 b0 rfl) 1 b1 rfl) 2 b2 rfl)
theorem set3_far {W : World} {g k : Nat} {o : Obj} {b0 b1 b2 : Value} (h : W.heap[k]? = some o) (hk : k ≠ g) : (((W.setCell ⟨g, 0, none⟩ b0).setCell ⟨g, 1, none⟩ b1).setCell ⟨g, 2, none⟩ b2).heap[k]? = some o := ((Below.heap_setCell _ ⟨g, 2, none⟩ b2 k hk).trans ((Below.heap_setCell _ ⟨g, 1, none⟩ b1 k hk).trans ((Below.heap_setCell _ ⟨g, 0, none⟩ b0 k hk).trans h)))
theorem set3_below {V W : World} {g : Nat} {b0 b1 b2 : Value} (h : Below V.heap.size V W) (hg : V.heap.size ≤ g) : Below V.heap.size V (((W.setCell ⟨g, 0, none⟩ b0).setCell ⟨g, 1, none⟩ b1).setCell ⟨g, 2, none⟩ b2) := (below_set (below_set (below_set h hg) hg) hg)
theorem Gs.put3 {Φ : World → Prop} {V W : World} {g : Nat} {t : TypeId} {c0 c1 c2 : Value} (b0 b1 b2 : Value) (G : Gs Φ V) (hb : Aside0 (Below V.heap.size V W)) (hg : Aside0 (g = V.heap.size)) (hx : Aside0 (W.heap[g]? = some (.cells #[c0, c1, c2] t (0, 0)))) :
    Gs (fun w => Φ w ∧ box3 g b0 b1 b2 w) (((W.setCell ⟨g, 0, none⟩ b0).setCell ⟨g, 1, none⟩ b1).setCell ⟨g, 2, none⟩ b2) :=
  (G.go (set3_below hb.out (Nat.le_of_eq hg.out.symm))).add (Gs.ofBox3 (set3_blk hx.out))
theorem box3_kept {g : Nat} {b0 b1 b2 : Value} {W W2 : World} {S : Nat → Prop} (h : box3 g b0 b1 b2 W) (hk : Kept W W2 S) (hn : ¬ S g) : box3 g b0 b1 b2 W2 := ⟨cell_kept h.1 hk hn, cell_kept h.2.1 hk hn, cell_kept h.2.2 hk hn⟩
theorem Gs.ofB3 {g : Nat} {b0 b1 b2 : Value} {W : World} (h : box3 g b0 b1 b2 W) : Gs (box3 g b0 b1 b2) W := ⟨h, fun hb h => ⟨pw_cell_below hb h.1, pw_cell_below hb h.2.1, pw_cell_below hb h.2.2⟩⟩
theorem box4_kept {g : Nat} {b0 b1 b2 b3 : Value} {W W2 : World} {S : Nat → Prop} (h : box4 g b0 b1 b2 b3 W) (hk : Kept W W2 S) (hn : ¬ S g) : box4 g b0 b1 b2 b3 W2 := ⟨cell_kept h.1 hk hn, cell_kept h.2.1 hk hn, cell_kept h.2.2.1 hk hn, cell_kept h.2.2.2 hk hn⟩
theorem Gs.ofB4 {g : Nat} {b0 b1 b2 b3 : Value} {W : World} (h : box4 g b0 b1 b2 b3 W) : Gs (box4 g b0 b1 b2 b3) W := ⟨h, fun hb h => ⟨pw_cell_below hb h.1, pw_cell_below hb h.2.1, pw_cell_below hb h.2.2.1, pw_cell_below hb h.2.2.2⟩⟩
section
open Go.Proofs.YtgindocfjoalhaaW.PrintLast
variable {P : Program} {ops : Array Oper} {Q : Exit → Act → World → Prop} {Φ : World → Prop} {n m fuel : Nat} {a : Act} {w : World} {T : Bool × List (List Nat × List Nat)} {B : List Nat} {ds : List Nat}
/-- A region that draws its order, at its head; ds: what is done last. -/
theorem regD {id : Nat} (ds : List Nat) (G : Gs Φ w) (hm : P.follows .mixedOrders = true) (hn : ops.size = n) (hT : rtab .any ops = T) (hB : waitsOk T.2 B = true)
    (h : ∀ W, Below w.heap.size w W → Gs Φ W → Aside0 (rtab .any ops = T) → Aside0 (waitsOk T.2 B = true) → wpAnyLast P .any ops Q Φ ds n (bz n 0) a W) : (Code.region id ops true).wp P Q a w :=
  start_ (bz n 0) hm hn (bz_nil n) (G.go (below_drew (Below.refl _ _))).at_ (fun _ => h _ (below_drew (Below.refl _ _)) (G.go (below_drew (Below.refl _ _))) ⟨hT⟩ ⟨hB⟩)
/-- A call in such a region. -/
theorem rcD {oi : Oper} (i : Nat) (t : Tmp) (m' : Nat) (HT : Aside0 (rtab .any ops = T)) (hi : ops[i]? = some oi) (hN : oi.dst = some t) (hd : i ∉ ds) (hc : (readyT T.2 (bz n m).toList == [i] && (bz n m).toList.set i true == (bz n m').toList) = true)
    {f : FuncId} {fn : Func} {ars : Array Operand} {ts : Array TypeId} (hf : P.funcs[f]? = some fn) (hname : (fn.name == "runtime.NumGoroutine") = false) (hb : fn.body.isSome = true) (hop : oi.op = .call { callee := .value (.func f), args := ars, argTypes := ts }) (args : Array Value)
    (hw : Region.wanted oi (yielded ops a.tmps) = true) (hargs : ars.map a.eval = args)
    (h : Calls P f args w fun e w' => ∃ v, e = .returned v ∧ Φ w' ∧ ∀ a', a.put (some t) v = a' → wpAnyLast P .any ops Q Φ ds fuel (bz n m') a' w') : wpAnyLast P .any ops Q Φ ds (fuel + 1) (bz n m) a w := by
  refine one_ (bz n m') hi hN (one_of HT.out hc) hd (fun K hK => ?_)
  refine goes_ hf hname hb args hw hN hop hargs (h.mono fun e w' hh => ?_)
  obtain ⟨v, he, hp, hr⟩ := hh
  exact ⟨v, he, hK.out _ _ hp (fun _ => hr _ rfl)⟩
/-- A block made in a region that draws its order. -/
theorem raD {oi : Oper} (i : Nat) (t : Tmp) (m' : Nat) (v : Nat → Value) (cs : Array Value) (ty : TypeId) (HT : Aside0 (rtab .any ops = T)) (hi : ops[i]? = some oi) (hN : oi.dst = some t) (hd : i ∉ ds) (hc : (readyT T.2 (bz n m).toList == [i] && (bz n m).toList.set i true == (bz n m').toList) = true) (G : Gs Φ w)
    (hw : Region.wanted oi (yielded ops a.tmps) = true) (hrun : (execOp a.eval oi).run P w = .ok (.value (v w.heap.size)) (w.alloc (.cells cs ty (0, 0))))
    (h : ∀ g w2, g = w.heap.size → w2.heap[g]? = some (.cells cs ty (0, 0)) → Below w.heap.size w w2 → Gs Φ w2 → ∀ a', a.put (some t) (v g) = a' → wpAnyLast P .any ops Q Φ ds fuel (bz n m') a' w2) : wpAnyLast P .any ops Q Φ ds (fuel + 1) (bz n m) a w := by
  refine one_ (bz n m') hi hN (one_of HT.out hc) hd (fun K hK => ?_)
  refine value_ hw hN hrun ?_
  exact hK.out _ _ (G.go (below_alloc (Below.refl _ _) _)).at_ (fun _ => h _ _ rfl (blk_new w _) (below_alloc (Below.refl _ _) _) (G.go (below_alloc (Below.refl _ _) _)) _ rfl)
/-- A call and a variable's making, both of which may come up. -/
theorem tcD {oi oj : Oper} (i : Nat) (t : Tmp) (mi : Nat) (j : Nat) (tj : Tmp) (mj : Nat) (v : Nat → Value) (cs : Array Value) (ty : TypeId) (HT : Aside0 (rtab .any ops = T)) (hi : ops[i]? = some oi) (hj : ops[j]? = some oj) (hN : oi.dst = some t) (hNj : oj.dst = some tj) (hd : i ∉ ds) (hdj : j ∉ ds)
    (hc : (readyT T.2 (bz n m).toList == [i, j] && (bz n m).toList.set i true == (bz n mi).toList && (bz n m).toList.set j true == (bz n mj).toList) = true)
    {f : FuncId} {fn : Func} {ars : Array Operand} {ts : Array TypeId} (hf : P.funcs[f]? = some fn) (hname : (fn.name == "runtime.NumGoroutine") = false) (hb : fn.body.isSome = true) (hop : oi.op = .call { callee := .value (.func f), args := ars, argTypes := ts }) (args : Array Value)
    (hw : Region.wanted oi (yielded ops a.tmps) = true) (hargs : ars.map a.eval = args) (G : Gs Φ w) (hwj : Region.wanted oj (yielded ops a.tmps) = true) (hrun : (execOp a.eval oj).run P w = .ok (.value (v w.heap.size)) (w.alloc (.cells cs ty (0, 0))))
    (h1 : Calls P f args w fun e w' => ∃ v, e = .returned v ∧ Φ w' ∧ ∀ a', a.put (some t) v = a' → wpAnyLast P .any ops Q Φ ds fuel (bz n mi) a' w')
    (h2 : ∀ g w2, g = w.heap.size → w2.heap[g]? = some (.cells cs ty (0, 0)) → Below w.heap.size w w2 → ∀ a', a.put (some tj) (v g) = a' → wpAnyLast P .any ops Q Φ ds fuel (bz n mj) a' w2) : wpAnyLast P .any ops Q Φ ds (fuel + 1) (bz n m) a w := by
  refine two_ (bz n mi) (bz n mj) hi hj hN hNj (two_of HT.out hc) hd hdj (fun K hK => ?_) (fun K hK => ?_)
  · refine goes_ hf hname hb args hw hN hop hargs (h1.mono fun e w' hh => ?_)
    obtain ⟨v, he, hp, hr⟩ := hh
    exact ⟨v, he, hK.out _ _ hp (fun _ => hr _ rfl)⟩
  · refine value_ hwj hNj hrun ?_
    exact hK.out _ _ (G.go (below_alloc (Below.refl _ _) _)).at_ (fun _ => h2 _ _ rfl (blk_new w _) (below_alloc (Below.refl _ _) _) _ rfl)
/-- A store that is done last. -/
theorem lsD {oi : Oper} (i : Nat) (m' : Nat) (w1 : World) (HT : Aside0 (rtab .any ops = T)) (hi : ops[i]? = some oi) (hN : oi.dst = none) (hd : i ∈ ds) (hc : (readyT T.2 (bz n m).toList == [i] && (bz n m).toList.set i true == (bz n m').toList) = true)
    (hw : Region.wanted oi (yielded ops a.tmps) = true) (hrun : (execOp a.eval oi).run P w = .ok .skip w1) (h : wpAnyLast P .any ops Q Φ ds fuel (bz n m') a w1) : wpAnyLast P .any ops Q Φ ds (fuel + 1) (bz n m) a w := by
  refine last_ (bz n m') hi hN (one_of HT.out hc) hd (fun K hK => ?_)
  exact skip_ hw hN hrun (hK.out _ _ h)
end
/-! ### laws_markAlarmS: function 26 (by hand) -/
def laws_markAlarmS.l0 : Nat → List (S26) → Int → Int → Option (Int × List (S26))
  | 0, _, _, _ => none
  | k + 1, x0, x1, x5 => if x5 < (x0.length : Int) then (if 0 ≤ x5 then ((laws_markLabelS.f k (rd_T26 x0 x5).f0 x1).bind fun b => ((laws_markText.f k (wrap64 ((wrap64 (b.1 + 1)) + 1))).bind fun t => (laws_markAlarmS.l0 k (x0.set (x5 : Int).toNat (⟨b.2, b.1, (wrap64 (b.1 + 1)), t⟩ : S26)) (wrap64 ((wrap64 ((wrap64 (b.1 + 1)) + 1)) + 1)) (wrap64 (x5 + 1))))) else (none)) else (some (x1, x0))
def laws_markAlarmS.f (k : Nat) (l0 : List (S26)) (a1 : Int) : Option (Int × List (S26)) := laws_markAlarmS.l0 k l0 a1 0
set_option maxHeartbeats 8000000 in
set_option maxRecDepth 100000 in
theorem laws_markAlarmS.calls (k : Nat) (P : Nat → Prop) (A0 : Option Addr) (c0 : Nat) (l0 : List (S26)) (a1 : Int) (r1 : Int) (r2 : List (S26)) (w0 w : World) (hB : Below w0.heap.size w0 w) (ho0 : Kd.S k26 26 w w0.heap.size P (.slice A0 l0.length c0) l0) (h : laws_markAlarmS.f k l0 a1 = some (r1, r2)) :
    Calls Try.prog 26 #[.slice A0 l0.length c0, .int .i64 a1] w fun e w' => e = .returned (.int .i64 r1) ∧ Kd.S k26 26 w' w0.heap.size P (.slice A0 l0.length c0) r2 ∧ Below w0.heap.size w0 w' ∧ Kept w w' P := by
  have hu := Try.underlying26
  have HN := Aside0.mk (Eq.refl l0.length)
  obtain ⟨n0, hn0⟩ : ∃ n, n = l0.length := ⟨_, rfl⟩
  have HN0 := Aside0.mk hn0
  rw [← hn0] at ho0 ⊢
  clear hn0
  have HO0 := Aside0.mk ho0
  have HK := Aside0.mk (Kept.refl w P)
  have HB := Aside0.mk hB
  clear hB ho0
  have H' := Aside0.mk (show laws_markAlarmS.l0 k l0 a1 0 = some (r1, r2) from h)
  clear h
  go_enter Try.func26, Try.ntmps26
  go_wp2
  go_loopg [1, 5] k (fun kq v1 v5 w' => ∃ (x0 : List (S26)) (x1 : Int) (x5 : Int), v1 = .int .i64 x1 ∧ v5 = .int .i64 x5 ∧ Aside0 (laws_markAlarmS.l0 kq x0 x1 x5 = some (r1, r2)) ∧ Aside0 (kq ≤ k) ∧ Aside0 (Kd.S k26 26 w' w0.heap.size P (.slice A0 n0 c0) x0) ∧ Aside0 (Kept w w' P) ∧ Aside0 (Below w0.heap.size w0 w'))
  case atStart => exact ⟨l0, a1, 0, rfl, rfl, H', ⟨Nat.le_refl _⟩, HO0, HK, HB⟩
  case round =>
    clear H' HO0 HK HB
    obtain ⟨x0, x1, x5, rfl, rfl, HA, HK1, HO, HK, HB⟩ := hrel
    cases gk with
    | zero => exact absurd HA.out (by simp [laws_markAlarmS.l0])
    | succ k1 =>
      have H := HA.out
      clear HA
      simp only [laws_markAlarmS.l0] at H
      have hlen := (Kd.S_reads' HO.out).1
      by_cases c3 : x5 < (x0.length : Int)
      · rw [if_pos c3] at H
        by_cases c5 : 0 ≤ x5
        · rw [if_pos c5] at H
          obtain ⟨b, HL, H⟩ := Option.bind_eq_some_iff.mp H
          obtain ⟨t, HT, H⟩ := Option.bind_eq_some_iff.mp H
          obtain ⟨b1, b2⟩ := b
          dsimp only at HL HT H
          have AL := Aside0.mk HL
          have AT := Aside0.mk HT
          have H' := Aside0.mk H
          clear HL HT H
          obtain ⟨g, cap, ev, hbg, hgl, _⟩ := Kd.S_form HO.out (by omega)
          injection ev with eA en ec
          subst eA; subst ec
          have hi1 : x5 < (n0 : Int) := by omega
          obtain ⟨oki, c, hcl, hM, hcc, hfr, hoki, hH⟩ := Kd.S_elem HO.out z26 x5 c5 hi1
          obtain ⟨v, rfl, hR⟩ := k26_openM hM
          have hz0 : wr.cell? ⟨g, (x5 : Int).toNat * 4, none⟩ = some v := hcc 0 _ rfl
          obtain ⟨Av, cv, ev⟩ := Kd.R_slice hR
          subst ev
          have HH := Aside0.mk hH
          have HR := Aside0.mk (Kd.R_tight rfl hR)
          have HRok := Aside0.mk hR.1
          have HOK := Aside0.mk hoki
          have HGP := Aside0.mk (show P g from (Kd.S_R HO.out).1 g (by simp [Value.ownBlock]))
          have HGB := Aside0.mk hbg
          have HN1 := Aside0.mk hlen
          have HI := Aside0.mk hi1
          have HC5 := Aside0.mk c5
          have HCC := Aside0.mk hcc
          have HFR := Aside0.mk hfr
          have p5 : (0 ≤ x5) = True := eq_true c5
          have q5 : (x5 < (n0 : Int)) = True := eq_true hi1
          clear hH hR hM hoki hgl hbg hlen hcc hfr hcl HO en
          have c5b : decide (0 ≤ x5) = true := decide_eq_true c5
          have c3b : decide (x5 < (n0 : Int)) = true := decide_eq_true hi1
          clear c3 c5 hi1
          go_wp2_with (first | ((with_reducible refine gate_callee (f := 65) rfl ?_); refine goesL_ (some 18) rfl rfl Try.func65 (by kernel_rfl) rfl #[.slice Av (rd_T26 x0 x5).f0.length cv, .int .i64 x1] rfl (by (try simp only [List.map_toArray, List.map_cons, List.map_nil]); first | done | rfl) ?_; refine (laws_markLabelS.calls k1 (fun k_ => some k_ = (Value.slice Av (rd_T26 x0 x5).f0.length cv).ownBlock) (.slice Av (rd_T26 x0 x5).f0.length cv) (rd_T26 x0 x5).f0 x1 b1 b2 w0 _ HB.out HR.out AL.out).mono ?_; rintro e w1 ⟨rfl, hy, hb, hk⟩; refine ⟨_, rfl, ?_⟩; have HB1 := Aside0.mk hb; have HS1 := Aside0.mk (fun k_ (h_ : some k_ = (Value.slice Av (rd_T26 x0 x5).f0.length cv).ownBlock) => HRok.out k_ h_.symm); have HK2 := Aside0.mk (Kept.then_ HK.out hk (fun k_ hk_ => Or.inl (HOK.out k_ (HS1.out k_ hk_)).1)); have HH1 := Aside0.mk (Kd.H_kept HH.out hk (fun k_ _ hn hs => hn (HS1.out k_ hs))); have HR1 := Aside0.mk (Kd.R_reok (ok := oki) rfl hy (fun k_ h_ => HS1.out k_ h_.symm)); have HG1 := Aside0.mk (fun hs => (HOK.out g (HS1.out g hs)).2 rfl); have HCC1 := Aside0.mk (fun j u (hj : _) => cell_kept (HCC.out j u hj) hk HG1.out); have e0 : w1.cell? ⟨g, (x5 : Int).toNat * 4, none⟩ = some (.slice Av (rd_T26 x0 x5).f0.length cv) := cell_kept (HCC.out 0 _ rfl) hk HG1.out; have e1 : w1.cell? ⟨g, (x5 : Int).toNat * 4 + 1, none⟩ = some (.int .i64 (rd_T26 x0 x5).f1) := cell_kept (HCC.out 1 _ rfl) hk HG1.out; have e2 : w1.cell? ⟨g, (x5 : Int).toNat * 4 + 2, none⟩ = some (.int .i64 (rd_T26 x0 x5).f2) := cell_kept (HCC.out 2 _ rfl) hk HG1.out; have e3 : w1.cell? ⟨g, (x5 : Int).toNat * 4 + 3, none⟩ = some (.string (rd_T26 x0 x5).f3) := cell_kept (HCC.out 3 _ rfl) hk HG1.out; have hfr1 : ∀ j, w1.frozen? ⟨g, (x5 : Int).toNat * 4 + j, none⟩ = false := (fun j => by have hb_ := hk.2 g (World.block_lt_of_cell? _ _ (HCC.out 0 _ rfl)) HG1.out; have hf_ := HFR.out j; simp only [World.frozen?, hb_] at hf_ ⊢; exact hf_); have f1 := hfr1 1; have f2 := hfr1 2; clear hfr1 hy hb hk hz0))
          refine (laws_markText.calls k1 (wrap64 (wrap64 (b1 + 1) + 1)) t _ AT.out).mono ?_
          rintro e w2 ⟨rfl, hb⟩
          have h1 : Kd.H k26 26 (w1.setCell ⟨g, (x5 : Int).toNat * 4 + 1, none⟩ (.int .i64 b1)) w0.heap.size P (.slice (some ⟨g, 0, none⟩) n0 c0) x0 x5 oki [.slice Av (rd_T26 x0 x5).f0.length cv, .int .i64 b1, .int .i64 (rd_T26 x0 x5).f2, .string (rd_T26 x0 x5).f3] := (Kd.H_seg HH1.out HC5.out HI.out (seg := [.int .i64 b1]) (j := 1) (show 1 + 1 ≤ 4 by decide) (fun q hq => by rw [List.mem_singleton.1 hq]; rfl)).1
          have h2 : Kd.H k26 26 ((w1.setCell ⟨g, (x5 : Int).toNat * 4 + 1, none⟩ (.int .i64 b1)).setCell ⟨g, (x5 : Int).toNat * 4 + 2, none⟩ (.int .i64 (wrap64 (b1 + 1)))) w0.heap.size P (.slice (some ⟨g, 0, none⟩) n0 c0) x0 x5 oki [.slice Av (rd_T26 x0 x5).f0.length cv, .int .i64 b1, .int .i64 (wrap64 (b1 + 1)), .string (rd_T26 x0 x5).f3] := (Kd.H_seg h1 HC5.out HI.out (seg := [.int .i64 (wrap64 (b1 + 1))]) (j := 2) (show 2 + 1 ≤ 4 by decide) (fun q hq => by rw [List.mem_singleton.1 hq]; rfl)).1
          have HH2 := Aside0.mk (Kd.H_below h2 hb)
          have HR2 := Aside0.mk (Kd.R_below (Kd.R_far (p := ⟨g, (x5 : Int).toNat * 4 + 2, none⟩) (Kd.R_far (p := ⟨g, (x5 : Int).toNat * 4 + 1, none⟩) HR1.out (fun k_ hk_ => (HOK.out k_ hk_).2) (.int .i64 b1)) (fun k_ hk_ => (HOK.out k_ hk_).2) (.int .i64 (wrap64 (b1 + 1)))) hb)
          have HB2 := Aside0.mk (below_step (below_set (below_set HB1.out HGB.out) HGB.out) hb)
          have HK3 := Aside0.mk (Kept.below (Kept.setCell (Kept.setCell HK2.out (p := ⟨g, (x5 : Int).toNat * 4 + 1, none⟩) (Or.inl HGP.out) _) (p := ⟨g, (x5 : Int).toNat * 4 + 2, none⟩) (Or.inl HGP.out) _) hb)
          obtain ⟨_, _, _, _, _, hcc2, _⟩ := Kd.H_raw HH2.out HC5.out HI.out
          have e3' : w2.cell? ⟨g, (x5 : Int).toNat * 4 + 3, none⟩ = some (.string (rd_T26 x0 x5).f3) := hcc2 3 _ rfl
          have f3' : w2.frozen? ⟨g, (x5 : Int).toNat * 4 + 3, none⟩ = false := (by obtain ⟨_, f_, hRg⟩ := HH2.out; obtain ⟨g_, cap_, ev_, _, _, cells_, hbk_⟩ := Kd.R_form hRg (by rw [List.length_zipIdx]; have := HN1.out; have := HI.out; have := HC5.out; omega); injection ev_ with ea_; injection ea_ with ea_; injection ea_ with ea_; subst ea_; exact blk_frozen hbk_ _)
          clear hcc2 h1 h2 hb
          go_wp2
          go_roundg k1
          case measure => have := HK1.out; omega
          case rel =>
            have h3 : Kd.H k26 26 (w2.setCell ⟨g, (x5 : Int).toNat * 4 + 3, none⟩ (.string t)) w0.heap.size P (.slice (some ⟨g, 0, none⟩) n0 c0) x0 x5 oki [.slice Av (rd_T26 x0 x5).f0.length cv, .int .i64 b1, .int .i64 (wrap64 (b1 + 1)), .string t] := (Kd.H_seg HH2.out HC5.out HI.out (seg := [.string t]) (j := 3) (show 3 + 1 ≤ 4 by decide) (fun q hq => by rw [List.mem_singleton.1 hq]; rfl)).1
            have h4 := Kd.H_back h3 (x' := (⟨b2, b1, wrap64 (b1 + 1), t⟩ : S26)) (k26_mkM _ _ oki (⟨b2, b1, wrap64 (b1 + 1), t⟩ : S26) (v0 := .slice Av (rd_T26 x0 x5).f0.length cv) (Kd.R_far (p := ⟨g, (x5 : Int).toNat * 4 + 3, none⟩) HR2.out (fun k_ hk_ => (HOK.out k_ hk_).2) (.string t))) (fun _ hk_ => hk_)
            exact ⟨_, _, _, (by first | rfl | (simp; done) | (simp [*]; done)), (by first | rfl | (simp; done) | (simp [*]; done)), H', ⟨by have := HK1.out; omega⟩, ⟨h4⟩, ⟨Kept.setCell HK3.out (p := ⟨g, (x5 : Int).toNat * 4 + 3, none⟩) (Or.inl HGP.out) _⟩, ⟨below_set HB2.out HGB.out⟩⟩
        · rw [if_neg c5] at H
          exact absurd H (by simp)
      · rw [if_neg c3] at H
        simp only [Option.some.injEq, Prod.mk.injEq] at H
        obtain ⟨rfl, rfl⟩ := H
        have c3b : decide (x5 < (n0 : Int)) = false := decide_eq_false (by omega)
        clear c3 hlen
        go_wp2
        go_ret
        exact ⟨rfl, HO.out, HB.out, HK.out⟩
/-! ### A kind of slices whose own elements' rows are told apart (S within): 'Kd.S (.. tidy ..)' tells two levels apart -/
/-- As Kd.slice, but what is made tells the elements' rows apart from one another. -/
def tidy {α : Type} (e : Nat) (d : Kd α) : Kd (List α) where
  sz := 1
  E := e :: d.E
  K := (Kd.slice e d).K
  M := fun w base ok xs cs => ∃ v, cs = [v] ∧ Kd.S d e w base ok v xs
  K_len := (Kd.slice e d).K_len
  K_one := (Kd.slice e d).K_one
  K_below := (Kd.slice e d).K_below
  K_of_M := by
    rintro w base ok x cs ⟨v, rfl, h⟩
    obtain ⟨A, c, rfl, hl, hr⟩ := Kd.S_reads h
    exact ⟨A, c, rfl, hl, hr⟩
  M_mono := by
    rintro w base ok ok' x cs hok ⟨v, rfl, h⟩
    exact ⟨v, rfl, Kd.S_mono h hok⟩
  M_bound := by
    rintro w base ok x cs ⟨v, rfl, h⟩
    exact ⟨v, rfl, Kd.S_bound h⟩
  M_move := by
    rintro w w1 base ok x cs hm ⟨v, rfl, h⟩
    exact ⟨v, rfl, Kd.S_move h hm⟩
  M_lower := by
    rintro w base base' ok x cs hb ⟨v, rfl, h⟩
    exact ⟨v, rfl, Kd.S_lower h hb⟩
/-- Chains whose alarms' rows are told apart. -/
def k39t : Kd S39 := Kd.iso (Kd.pair (Kd.int .i64) (tidy 26 k26)) (fun x : S39 => (x.f0, x.f1))
theorem k39t_C {w : World} {A : Option Addr} {n : Nat} {xs : List S39} : Kd.C k39t w A n xs = Kd.C k39 w A n xs := rfl
theorem k39t_openM {w : World} {base : Nat} {ok : Nat → Prop} {x : S39} {cs : List Value} (h : k39t.M w base ok x cs) : ∃ v0, cs = [.int .i64 x.f0, v0] ∧ Kd.S k26 26 w base ok v0 x.f1 := by
  obtain ⟨_, _, rfl, rfl, ⟨v0, rfl, g0⟩⟩ := h
  exact ⟨v0, rfl, g0⟩
theorem k39t_mkM (w : World) (base : Nat) (ok : Nat → Prop) (x : S39) {v0 : Value} (g0 : Kd.S k26 26 w base ok v0 x.f1) : k39t.M w base ok x [.int .i64 x.f0, v0] := ⟨[.int .i64 x.f0], [v0], rfl, rfl, ⟨v0, rfl, g0⟩⟩
/-! ### laws_toChainS: function 70, its rows told apart at two levels (by hand) -/
set_option maxHeartbeats 8000000 in
set_option maxRecDepth 100000 in
theorem laws_toChainS2.calls (k : Nat) (A0 : Option Addr) (c0 : Nat) (l0 : List (S35)) (r : List (S39)) (w : World) (hr0 : Kd.C k35 w A0 l0.length l0) (hc0 : l0.length ≤ c0) (h : laws_toChainS.f k l0 = some r) :
    Calls Try.prog 70 #[.slice A0 l0.length c0] w fun e w' => ∃ v0_ : Value, e = .returned (v0_) ∧ Kd.S k39t 39 w' w.heap.size (fun _ => True) v0_ r ∧ Below w.heap.size w w' := by
  have hu := Try.underlying39
  have HR0 := aM hr0
  have HC0 := aM hc0
  clear hr0 hc0
  unfold laws_toChainS.f at h
  rw [if_pos (by omega)] at h
  by_cases c3 : ((l0.length : Int) : Int).toNat ≤ 8796093022208
  · rw [if_pos c3] at h
    have HX := aM h
    have LM := aM c3
    clear h c3
    have c2b1 : decide (0 ≤ (l0.length : Int)) = true := decide_eq_true (by omega)
    have c2b2 : (0 ≤ (l0.length : Int)) = True := eq_true (by omega)
    have c3b1 : decide ((l0.length : Int).toNat ≤ 8796093022208) = true := decide_eq_true LM.out
    go_enter Try.func70, Try.ntmps70
    go_wp2_with (first | ((with_reducible refine gate_dst (N := 7) rfl ?_); refine Kd.S_make k39t _ 39 rfl (N := 7) rfl 53 _ _ rfl (l0.length : Int) rfl rfl Try.underlying53 (.agg #[(.int .i64 0), (.slice none 0 0)]) 32 info39 rfl (by decide) (by omega) z39 (ok := fun _ => True) (okp := fun _ => True) (k39t_mkM _ _ _ z39 (Kd.S_nil _ _ _ _ _)) (fun _ hk => hk) trivial (by omega) (Nat.le_trans (Nat.mul_le_mul_right _ (LM.out : (l0.length : Int).toNat ≤ 8796093022208)) (by omega)) (Below.refl _ _) (Nat.le_refl _) ?_; intro v7_ w4 ho5 hb hg_ hnew_; have HO1 := aM ho5; have HB1 := aM hb; clear hg_ hnew_ ho5 hb))
    obtain ⟨y, hy⟩ : ∃ y, y = List.replicate ((l0.length : Int)).toNat z39 := ⟨_, rfl⟩
    have HX1 := aM (show laws_toChainS.l0 k l0 y 0 = some r by rw [hy]; exact HX.out)
    have HO2 := aM (show Kd.S k39t 39 w4 w.heap.size (fun _ => True) v7_ y by rw [hy]; exact HO1.out)
    clear HX HO1
    obtain ⟨A3, c3, e3⟩ := Kd.S_slice HO2.out
    have HY := aM hy
    have HL := aM (show y.length = l0.length by rw [hy, List.length_replicate]; omega)
    clear hy
    subst e3
    go_loopg [4] k (fun kq v4 w' => ∃ (x3 : List (S39)) (x4 : Int), v4 = .int .i64 x4 ∧ Aside0 (laws_toChainS.l0 kq l0 x3 x4 = some r) ∧ Aside0 (kq ≤ k) ∧ Aside0 (Kd.S k39t 39 w' w.heap.size (fun _ => True) (.slice A3 y.length c3) x3) ∧ Aside0 (Below w.heap.size w w'))
    case atStart => exact ⟨y, 0, rfl, HX1, ⟨Nat.le_refl _⟩, HO2, HB1⟩
    case round =>
      clear HX1 HO2 HB1 HY c2b1 c2b2 c3b1
      obtain ⟨x3, x4, rfl, HA, HK1, HO, HB⟩ := hrel
      cases gk with
      | zero => exact absurd HA.out (by simp [laws_toChainS.l0])
      | succ k1 =>
        have H := HA.out
        clear HA
        simp only [laws_toChainS.l0] at H
        by_cases c6 : x4 < (l0.length : Int)
        · rw [if_pos c6] at H
          by_cases c7 : 0 ≤ x4
          · rw [if_pos c7] at H
            obtain ⟨⟨bf, bl⟩, HT, H⟩ := Option.bind_eq_some_iff.mp H
            dsimp only at HT H
            by_cases c9 : x4 < (x3.length : Int)
            · rw [if_pos c9] at H
              have AT := aM HT
              have H' := aM H
              clear HT H
              have hlen := (Kd.S_reads' HO.out).1
              have hi1 : x4 < (y.length : Int) := by omega
              obtain ⟨g, cap, ev, hbg, hgl, _⟩ := Kd.S_form HO.out (by omega)
              injection ev with eA en ec
              subst eA; subst ec
              obtain ⟨ad, Aa, ca, rfl, hx0, hx1, hla, hCa⟩ := at_T35 HR0.out x4 c7 c6
              replace hx0 := pw_cell_below HB.out hx0
              replace hx1 := pw_cell_below HB.out hx1
              have HCw := aM hCa
              have HLa := aM hla
              have HGB := aM hbg
              have HI := aM hi1
              have HC7 := aM c7
              have HLn := aM hlen
              have p5 : (0 ≤ x4) = True := eq_true c7
              have q5 : (x4 < (l0.length : Int)) = True := eq_true c6
              have q6 : (x4 < (y.length : Int)) = True := eq_true hi1
              have c6b : decide (x4 < (l0.length : Int)) = true := decide_eq_true c6
              clear hla hCa hbg hgl hi1 hlen c6 c7 c9 en
              go_wp2_with (first | ((with_reducible refine gate_callee (f := 21) rfl ?_); refine goesL_ (some 20) rfl rfl Try.func21 (by kernel_rfl) rfl #[.agg #[.int .i64 (rd_T35 l0 x4).f0, .slice Aa (rd_T35 l0 x4).f1.length ca]] rfl (by (try simp only [List.map_toArray, List.map_cons, List.map_nil]); first | done | rfl) ?_; refine (laws_toChain.calls k1 (rd_T35 l0 x4).f0 _ _ (rd_T35 l0 x4).f1 bf bl _ (Kd.C_below HCw.out HB.out) HLa.out AT.out).mono ?_; rintro e w5 ⟨v5_, rfl, ho, hb⟩; obtain ⟨An, cn, rfl, _, _⟩ := Kd.S_reads ho; refine ⟨_, rfl, ?_⟩; have hob := Kd.S_below (Kd.S_bound HO.out) hb; have hbb := Kd.S_lower (Kd.S_mono (Kd.S_bound ho) (fun k_ hk_ => hk_.2.1)) HB.out.size; obtain ⟨oki, c, hcl, hM, hcc, hfr, hoki, hH⟩ := Kd.S_elem (Kd.S_mono hob (ok' := fun k_ => True ∧ ¬ (wr.heap.size ≤ k_)) (fun k_ hk_ => ⟨trivial, by have := hk_.2.2.1; omega⟩)) z39 x4 HC7.out HI.out; obtain ⟨vi, rfl, _⟩ := k39t_openM hM; have hg1 := (Kd.S_R hob).1 g (by simp [Value.ownBlock]); have HG1 := aM hg1.2.2.1; have HH := aM hH; have HBB := aM hbb; have HB2 := aM (below_step HB.out hb); have z0 : w5.cell? ⟨g, x4.toNat * 2, none⟩ = some (.int .i64 (rd_T39 x3 x4).f0) := hcc 0 _ rfl; have z1 : w5.cell? ⟨g, x4.toNat * 2 + 1, none⟩ = some vi := hcc 1 _ rfl; have y0 : w5.frozen? ⟨g, x4.toNat * 2, none⟩ = false := hfr 0; have y1 : w5.frozen? ⟨g, x4.toNat * 2 + 1, none⟩ = false := hfr 1; clear ho hb hob hbb hH hM hcc hfr hcl hoki hg1 hx0 hx1 HB HO))
              go_roundg k1
              case measure => have := HK1.out; omega
              case rel =>
                have hS1 := (Kd.S_seg (okg := fun k_ => wr.heap.size ≤ k_) HH.out HC7.out HI.out (seg := [.int .i64 bf, .slice An bl.length cn]) (j := 0) (show 0 + 2 ≤ 2 by decide) (x' := (⟨bf, bl⟩ : S39)) (okp := fun k_ => wr.heap.size ≤ k_) (k39t_mkM _ _ _ (⟨bf, bl⟩ : S39) (v0 := .slice An bl.length cn) HBB.out) (fun _ h_ => Or.inr h_) (fun k_ h_ => ⟨trivial, fun e_ => by subst e_; have := HG1.out; omega⟩)).1
                exact ⟨_, _, (by first | rfl | (simp; done) | (simp [*]; done)), H', ⟨by have := HK1.out; omega⟩, ⟨hS1⟩, ⟨below_set (below_set HB2.out HGB.out) HGB.out⟩⟩
            · rw [if_neg c9] at H; cases H
          · rw [if_neg c7] at H; cases H
        · rw [if_neg c6] at H
          simp only [Option.some.injEq] at H
          subst H
          have c6b : decide (x4 < (l0.length : Int)) = false := decide_eq_false c6
          go_wp2
          go_ret
          exact ⟨_, rfl, HO.out, HB.out⟩
  · rw [if_neg c3] at h; cases h
/-! ### laws.toPart, turned -/
set_option maxHeartbeats 8000000 in
set_option maxRecDepth 100000 in
theorem laws_toPart2.calls (k : Nat) (a0_0 : Int) (a0_1 : Int) (A0_2 : Option Addr) (c0_2 : Nat) (l0_2 : List (S35)) (r1 : Int) (r2 : Int) (r3 : List (S39)) (w : World) (hr0_2 : Kd.C k35 w A0_2 l0_2.length l0_2) (hc0_2 : l0_2.length ≤ c0_2) (h : laws_toPart.f k a0_0 a0_1 l0_2 = some (r1, r2, r3)) :
  Calls Try.prog 31 #[.agg #[.int .i64 a0_0, .int .i64 a0_1, .slice A0_2 l0_2.length c0_2]] w fun e w' => ∃ v2_ : Value, e = .returned (.agg #[.int .i64 r1, .int .i64 r2, v2_]) ∧ Kd.S k39t 39 w' w.heap.size (fun _ => True) v2_ r3 ∧ Below w.heap.size w w' := by
 have hu50 := Try.underlying50
 have hu55 := Try.underlying55
 have HR0_2 := aM hr0_2
 have HC0_2 := aM hc0_2
 clear hr0_2 hc0_2
 have HB := aM (Below.refl w.heap.size w)
 have H : ((laws_toChainS.f k l0_2).bind fun t221 => (some (a0_0, a0_1, t221))) = some (r1, r2, r3) := h
 clear h; replace H := Option.bind_eq_some_iff.mp H; obtain ⟨t221, A20, H⟩ := H; try dsimp only at H
 have A2 := aM A20
 clear A20
 simp only [Option.some.injEq, Prod.mk.injEq] at H
 obtain ⟨rfl, rfl, rfl⟩ := H
 go_enter Try.func31, Try.ntmps31
 go_wp2_with (first | ((with_reducible refine gate_dst (N := 1) rfl ?_); refine box_event ?hg (N := 1) ?hd (cs := #[.int .i64 a0_0, .int .i64 a0_1, .slice A0_2 l0_2.length c0_2]) (t := 50) ?hr ?_; (case hd => rfl); (case hg => rfl); (case hr => first | (go_simp; done) | (go_simp; rfl)); intro gb218 hg w3 hbox hb; have n0_ := aM (below_step (by repeat (first | (with_reducible first | exact HB.out | apply aW1 | apply aW2 | apply aW3) | exact HB.out)) hb); have n1_ := aM (hbox); have n2_ := aM ((by rw [hg]; exact (below_size (by repeat (first | (with_reducible first | exact HB.out | apply aW1 | apply aW2 | apply aW3) | exact HB.out))) : w.heap.size ≤ gb218)); have n3_ := aM ((by rw [hg]; exact (below_size (by repeat (first | (with_reducible first | exact HB.out | apply aW1 | apply aW2 | apply aW3) | exact HB.out))) : w.heap.size ≤ gb218)); clear HB; have HB := n0_; have BK218 := n1_; have GW218 := n2_; have GE218 := n3_; clear n0_ n1_ n2_ n3_ hb hbox hg) | ((with_reducible refine gate_dst (N := 2) rfl ?_); refine box_event ?hg (N := 2) ?hd (cs := #[.int .i64 0, .int .i64 0, .slice none 0 0]) (t := 55) ?hr ?_; (case hd => rfl); (case hg => rfl); (case hr => first | (go_simp; done) | (go_simp; rfl)); intro gb219 hg w4 hbox hb; have n0_ := bb BK218 hb; have n1_ := aM (below_step (by repeat (first | (with_reducible first | exact HB.out | apply aW1 | apply aW2 | apply aW3 | refine below_set ?_ GE218.out) | exact HB.out)) hb); have n2_ := aM (hbox); have n3_ := aM ((by rw [hg]; exact (below_size (by repeat (first | (with_reducible first | exact HB.out | apply aW1 | apply aW2 | apply aW3 | refine below_set ?_ GE218.out) | exact HB.out))) : w.heap.size ≤ gb219)); have n4_ := aM ((by rw [hg]; exact (below_size (by repeat (first | (with_reducible first | exact HB.out | apply aW1 | apply aW2 | apply aW3 | refine below_set ?_ GE218.out) | exact HB.out))) : w.heap.size ≤ gb219)); have n5_ := aM ((by rw [hg]; exact Nat.ne_of_lt (blk_lt (g := gb218) (aB BK218)) : gb218 ≠ gb219)); have n6_ := aM ((by rw [hg]; exact Nat.ne_of_gt (blk_lt (g := gb218) (aB BK218)) : gb219 ≠ gb218)); clear BK218 HB; have BK218 := n0_; have HB := n1_; have BK219 := n2_; have GW219 := n3_; have GE219 := n4_; have NB218_219 := n5_; have NB219_218 := n6_; clear n0_ n1_ n2_ n3_ n4_ n5_ n6_ hb hbox hg) | ((with_reducible refine gate_dst (N := 3) rfl ?_); refine box_event ?hg (N := 3) ?hd (cs := #[.int .i64 0, .int .i64 0, .slice none 0 0]) (t := 55) ?hr ?_; (case hd => rfl); (case hg => rfl); (case hr => first | (go_simp; done) | (go_simp; rfl)); intro gb220 hg w5 hbox hb; have n0_ := bb BK218 hb; have n1_ := bb BK219 hb; have n2_ := aM (below_step (by repeat (first | (with_reducible first | exact HB.out | apply aW1 | apply aW2 | apply aW3 | refine below_set ?_ GE218.out | refine below_set ?_ GE219.out) | exact HB.out)) hb); have n3_ := aM (hbox); have n4_ := aM ((by rw [hg]; exact (below_size (by repeat (first | (with_reducible first | exact HB.out | apply aW1 | apply aW2 | apply aW3 | refine below_set ?_ GE218.out | refine below_set ?_ GE219.out) | exact HB.out))) : w.heap.size ≤ gb220)); have n5_ := aM ((by rw [hg]; exact (below_size (by repeat (first | (with_reducible first | exact HB.out | apply aW1 | apply aW2 | apply aW3 | refine below_set ?_ GE218.out | refine below_set ?_ GE219.out) | exact HB.out))) : w.heap.size ≤ gb220)); have n6_ := aM ((by rw [hg]; exact Nat.ne_of_lt (blk_lt (g := gb218) (aB BK218)) : gb218 ≠ gb220)); have n7_ := aM ((by rw [hg]; exact Nat.ne_of_gt (blk_lt (g := gb218) (aB BK218)) : gb220 ≠ gb218)); have n8_ := aM ((by rw [hg]; exact Nat.ne_of_lt (blk_lt (g := gb219) (aB BK219)) : gb219 ≠ gb220)); have n9_ := aM ((by rw [hg]; exact Nat.ne_of_gt (blk_lt (g := gb219) (aB BK219)) : gb220 ≠ gb219)); clear BK218 BK219 HB; have BK218 := n0_; have BK219 := n1_; have HB := n2_; have BK220 := n3_; have GW220 := n4_; have GE220 := n5_; have NB218_220 := n6_; have NB220_218 := n7_; have NB219_220 := n8_; have NB220_219 := n9_; clear n0_ n1_ n2_ n3_ n4_ n5_ n6_ n7_ n8_ n9_ hb hbox hg; have hnb6 := NB218_219.out; have hnc6 := NB219_218.out; have hnb7 := NB218_220.out; have hnc7 := NB220_218.out; have hcz8_0 := cz3_0 BK218; have hcz8_1 := cz3_1 BK218; have hcz8_2 := cz3_2 BK218; have hfz8_0 := blk_frozen BK218.out 0; have hfz8_1 := blk_frozen BK218.out 1; have hfz8_2 := blk_frozen BK218.out 2; have hnb9 := NB220_219.out; have hnc9 := NB219_220.out; have hcz10_0 := cz3_0 BK220; have hcz10_1 := cz3_1 BK220; have hcz10_2 := cz3_2 BK220; have hfz10_0 := blk_frozen BK220.out 0; have hfz10_1 := blk_frozen BK220.out 1; have hfz10_2 := blk_frozen BK220.out 2) | ((with_reducible refine gate_callee (f := 70) rfl ?_); refine goesL_ (some 12) rfl rfl Try.func70 (by kernel_rfl) rfl #[.slice A0_2 l0_2.length c0_2] rfl (by (try simp only [List.map_toArray, List.map_cons, List.map_nil]); first | done | rfl | (simp only [List.length_drop, List.length_take]; rfl)) ?_; (with_reducible refine (laws_toChainS2.calls k _ _ l0_2 t221 _ ?side1 ?side2 A2.out).mono ?_); (case side1 => exact Kd.C_below HR0_2.out (by repeat (first | (with_reducible first | exact HB.out | apply aW1 | apply aW2 | apply aW3 | refine below_set ?_ GE218.out | refine below_set ?_ GE219.out | refine below_set ?_ GE220.out) | exact HB.out))); (case side2 => exact HC0_2.out); rintro e w11 ⟨v222, rfl, ho0, hb⟩; refine ⟨_, rfl, ?_⟩; have n0_ := aM (Kd.S_lower ho0 (below_size (by repeat (first | (with_reducible first | exact HB.out | apply aW1 | apply aW2 | apply aW3 | refine below_set ?_ GE218.out | refine below_set ?_ GE219.out | refine below_set ?_ GE220.out) | exact HB.out)))); have n1_ := aM (blk_below (g := gb218) (o := .cells #[.int .i64 a0_0, .int .i64 a0_1, .slice A0_2 l0_2.length c0_2] 50 (0, 0)) (by (with_reducible repeat (first | refine aB1 ?_ _ | refine aB2 ?_ | refine aB3 ?_ _)); refine blk_far ?_ NB218_220.out _; (with_reducible repeat (first | refine aB1 ?_ _ | refine aB2 ?_ | refine aB3 ?_ _)); refine blk_far ?_ NB218_220.out _; (with_reducible repeat (first | refine aB1 ?_ _ | refine aB2 ?_ | refine aB3 ?_ _)); exact BK218.out) hb); have n2_ := aM (blk_below (g := gb219) (o := .cells #[.int .i64 0, .int .i64 0, .slice none 0 0] 55 (0, 0)) (by (with_reducible repeat (first | refine aB1 ?_ _ | refine aB2 ?_ | refine aB3 ?_ _)); refine blk_far ?_ NB219_220.out _; (with_reducible repeat (first | refine aB1 ?_ _ | refine aB2 ?_ | refine aB3 ?_ _)); refine blk_far ?_ NB219_220.out _; (with_reducible repeat (first | refine aB1 ?_ _ | refine aB2 ?_ | refine aB3 ?_ _)); exact BK219.out) hb); have n3_ := aM (blk_below (g := gb220) (o := .cells #[.int .i64 a0_0, .int .i64 a0_1, .slice none 0 0] 55 (0, 0)) (by (with_reducible repeat (first | refine aB1 ?_ _ | refine aB2 ?_ | refine aB3 ?_ _)); refine blk_put (cs := #[.int .i64 a0_0, .int .i64 0, .slice none 0 0]) ?_ 1 _ rfl; (with_reducible repeat (first | refine aB1 ?_ _ | refine aB2 ?_ | refine aB3 ?_ _)); refine blk_put (cs := #[.int .i64 0, .int .i64 0, .slice none 0 0]) ?_ 0 _ rfl; (with_reducible repeat (first | refine aB1 ?_ _ | refine aB2 ?_ | refine aB3 ?_ _)); exact BK220.out) hb); have n4_ := aM (below_step (by repeat (first | (with_reducible first | exact HB.out | apply aW1 | apply aW2 | apply aW3 | refine below_set ?_ GE218.out | refine below_set ?_ GE219.out | refine below_set ?_ GE220.out) | exact HB.out)) hb); clear BK218 BK219 BK220 HB; have HO223 := n0_; have BK218 := n1_; have BK219 := n2_; have BK220 := n3_; have HB := n4_; clear n0_ n1_ n2_ n3_ n4_; (try clear hb); (try clear hb2); (try clear hk); (try clear hi); (try clear ho0); obtain ⟨Ao12, co12, eo12⟩ := Kd.S_slice HO223.out; subst eo12; have hcz13_0 := cz3_0 BK220; have hcz13_1 := cz3_1 BK220; have hcz13_2 := cz3_2 BK220; have hfz13_0 := blk_frozen BK220.out 0; have hfz13_1 := blk_frozen BK220.out 1; have hfz13_2 := blk_frozen BK220.out 2; have hcz14_0 := cz3_0 BK219; have hcz14_1 := cz3_1 BK219; have hcz14_2 := cz3_2 BK219; have hfz14_0 := blk_frozen BK219.out 0; have hfz14_1 := blk_frozen BK219.out 1; have hfz14_2 := blk_frozen BK219.out 2))
 refine bodyPost_ret (results_cell_row rfl _ _ gb219 55 #[.int .i64 a0_0, .int .i64 a0_1, .slice Ao12 t221.length co12] (0, 0) _ rfl (by (with_reducible repeat (first | refine aB1 ?_ _ | refine aB2 ?_ | refine aB3 ?_ _)); refine blk_put (cs := #[.int .i64 a0_0, .int .i64 a0_1, .slice none 0 0]) ?_ 2 _ rfl; (with_reducible repeat (first | refine aB1 ?_ _ | refine aB2 ?_ | refine aB3 ?_ _)); refine blk_put (cs := #[.int .i64 a0_0, .int .i64 0, .slice none 0 0]) ?_ 1 _ rfl; (with_reducible repeat (first | refine aB1 ?_ _ | refine aB2 ?_ | refine aB3 ?_ _)); refine blk_put (cs := #[.int .i64 0, .int .i64 0, .slice none 0 0]) ?_ 0 _ rfl; (with_reducible repeat (first | refine aB1 ?_ _ | refine aB2 ?_ | refine aB3 ?_ _)); refine blk_far ?_ NB219_220.out _; (with_reducible repeat (first | refine aB1 ?_ _ | refine aB2 ?_ | refine aB3 ?_ _)); exact BK219.out) Try.underlying55 rfl (by kernel_rfl)) rfl ?_
 exact ⟨_, by first | rfl | (simp [errW_none, errW_some] <;> rfl) | (simp [*, errW_none, errW_some] <;> rfl), by (with_reducible repeat (first | apply aR1 | apply aR2 | apply aR3)); exact Kd.S_mono (Kd.S_far (p := ⟨gb219, 2, none⟩) (Kd.S_far (p := ⟨gb219, 1, none⟩) (Kd.S_far (p := ⟨gb219, 0, none⟩) (Kd.S_far (p := ⟨gb220, 2, none⟩) (Kd.S_types (Kd.S_types HO223.out BK220.out (by decide)) BK219.out (by decide)) (fun _ hk => hk.1.2) (.slice Ao12 t221.length co12)) (fun _ hk => hk.2) (.int .i64 a0_0)) (fun _ hk => hk.2) (.int .i64 a0_1)) (fun _ hk => hk.2) (.slice Ao12 t221.length co12)) (fun _ hk => trivial), by repeat (first | (with_reducible first | exact HB.out | apply aW1 | apply aW2 | apply aW3 | refine below_set ?_ GE218.out | refine below_set ?_ GE219.out | refine below_set ?_ GE220.out) | exact HB.out)⟩
/-! ### laws_markChainS: function 73 (by hand) -/
def laws_markChainS.l0 : Nat → List (S39) → Int → Int → Option (Int × List (S39))
  | 0, _, _, _ => none
  | k + 1, x0, x1, x5 => if x5 < (x0.length : Int) then (if 0 ≤ x5 then ((laws_markAlarmS.f k (rd_T39 x0 x5).f1 (wrap64 (x1 + 1))).bind fun b => (laws_markChainS.l0 k (x0.set (x5 : Int).toNat (⟨x1, b.2⟩ : S39)) b.1 (wrap64 (x5 + 1)))) else (none)) else (some (x1, x0))
def laws_markChainS.f (k : Nat) (l0 : List (S39)) (a1 : Int) : Option (Int × List (S39)) := laws_markChainS.l0 k l0 a1 0
set_option maxHeartbeats 8000000 in
set_option maxRecDepth 100000 in
theorem laws_markChainS.calls (k : Nat) (P : Nat → Prop) (A0 : Option Addr) (c0 : Nat) (l0 : List (S39)) (a1 : Int) (r1 : Int) (r2 : List (S39)) (w0 w : World) (hB : Below w0.heap.size w0 w) (ho0 : Kd.S k39t 39 w w0.heap.size P (.slice A0 l0.length c0) l0) (h : laws_markChainS.f k l0 a1 = some (r1, r2)) :
    Calls Try.prog 73 #[.slice A0 l0.length c0, .int .i64 a1] w fun e w' => e = .returned (.int .i64 r1) ∧ Kd.S k39t 39 w' w0.heap.size P (.slice A0 l0.length c0) r2 ∧ Below w0.heap.size w0 w' ∧ Kept w w' P := by
  have hu := Try.underlying39
  obtain ⟨n0, hn0⟩ : ∃ n, n = l0.length := ⟨_, rfl⟩
  have HN0 := Aside0.mk hn0
  rw [← hn0] at ho0 ⊢
  clear hn0
  have HO0 := Aside0.mk ho0
  have HK := Aside0.mk (Kept.refl w P)
  have HB := Aside0.mk hB
  clear hB ho0
  have H' := Aside0.mk (show laws_markChainS.l0 k l0 a1 0 = some (r1, r2) from h)
  clear h
  go_enter Try.func73, Try.ntmps73
  go_wp2
  go_loopg [1, 5] k (fun kq v1 v5 w' => ∃ (x0 : List (S39)) (x1 : Int) (x5 : Int), v1 = .int .i64 x1 ∧ v5 = .int .i64 x5 ∧ Aside0 (laws_markChainS.l0 kq x0 x1 x5 = some (r1, r2)) ∧ Aside0 (kq ≤ k) ∧ Aside0 (Kd.S k39t 39 w' w0.heap.size P (.slice A0 n0 c0) x0) ∧ Aside0 (Kept w w' P) ∧ Aside0 (Below w0.heap.size w0 w'))
  case atStart => exact ⟨l0, a1, 0, rfl, rfl, H', ⟨Nat.le_refl _⟩, HO0, HK, HB⟩
  case round =>
    clear H' HO0 HK HB
    obtain ⟨x0, x1, x5, rfl, rfl, HA, HK1, HO, HK, HB⟩ := hrel
    cases gk with
    | zero => exact absurd HA.out (by simp [laws_markChainS.l0])
    | succ k1 =>
      have H := HA.out
      clear HA
      simp only [laws_markChainS.l0] at H
      have hlen := (Kd.S_reads' HO.out).1
      by_cases c3 : x5 < (x0.length : Int)
      · rw [if_pos c3] at H
        by_cases c5 : 0 ≤ x5
        · rw [if_pos c5] at H
          obtain ⟨b, HL, H⟩ := Option.bind_eq_some_iff.mp H
          obtain ⟨b1, b2⟩ := b
          dsimp only at HL H
          have AL := Aside0.mk HL
          have H' := Aside0.mk H
          clear HL H
          obtain ⟨g, cap, ev, hbg, hgl, _⟩ := Kd.S_form HO.out (by omega)
          injection ev with eA en ec
          subst eA; subst ec
          have hi1 : x5 < (n0 : Int) := by omega
          obtain ⟨oki, c, hcl, hM, hcc, hfr, hoki, hH⟩ := Kd.S_elem HO.out z39 x5 c5 hi1
          obtain ⟨v, rfl, hR⟩ := k39t_openM hM
          obtain ⟨Av, cv, ev⟩ := Kd.S_slice hR
          subst ev
          have hR2 : Kd.S k26 26 wr w0.heap.size oki (.slice Av (rd_T39 x0 x5).f1.length cv) (rd_T39 x0 x5).f1 := hR
          have hH2 : Kd.H k39t 39 wr w0.heap.size P (.slice (some ⟨g, 0, none⟩) n0 c0) x0 x5 oki [.int .i64 (rd_T39 x0 x5).f0, .slice Av (rd_T39 x0 x5).f1.length cv] := hH
          have z0 : wr.cell? ⟨g, (x5 : Int).toNat * 2, none⟩ = some (.int .i64 (rd_T39 x0 x5).f0) := hcc 0 _ rfl
          have y0 : wr.frozen? ⟨g, (x5 : Int).toNat * 2, none⟩ = false := hfr 0
          have HGP := Aside0.mk (show P g from (Kd.S_R HO.out).1 g (by simp [Value.ownBlock]))
          have HGB := Aside0.mk hbg
          have HOK := Aside0.mk hoki
          have HI := Aside0.mk hi1
          have HC5 := Aside0.mk c5
          have HH := Aside0.mk hH2
          have HR := Aside0.mk hR2
          have p5 : (0 ≤ x5) = True := eq_true c5
          have q5 : (x5 < (n0 : Int)) = True := eq_true hi1
          clear hH hH2 hR hR2 hM hoki hgl hbg hlen hcc hfr hcl HO en
          have c5b : decide (0 ≤ x5) = true := decide_eq_true c5
          have c3b : decide (x5 < (n0 : Int)) = true := decide_eq_true hi1
          clear c3 c5 hi1
          go_upto_region 5 with (fail)
          clear z0 y0
          have h1 : Kd.H k39t 39 (wr.setCell ⟨g, (x5 : Int).toNat * 2, none⟩ (.int .i64 x1)) w0.heap.size P (.slice (some ⟨g, 0, none⟩) n0 c0) x0 x5 oki [.int .i64 x1, .slice Av (rd_T39 x0 x5).f1.length cv] := (Kd.H_seg HH.out HC5.out HI.out (seg := [.int .i64 x1]) (j := 0) (show 0 + 1 ≤ 2 by decide) (fun q hq => by rw [List.mem_singleton.1 hq]; rfl)).1
          have HH1 := Aside0.mk h1
          have HR1 := Aside0.mk (Kd.S_far HR.out (p := ⟨g, (x5 : Int).toNat * 2, none⟩) (fun k_ hk_ => (HOK.out k_ hk_).2) (.int .i64 x1))
          have HB1 := Aside0.mk (show Below w0.heap.size w0 (wr.setCell ⟨g, (x5 : Int).toNat * 2, none⟩ (.int .i64 x1)) from below_set HB.out HGB.out)
          have HK2 := Aside0.mk (Kept.setCell HK.out (p := ⟨g, (x5 : Int).toNat * 2, none⟩) (Or.inl HGP.out) (.int .i64 x1))
          clear h1 HH HR HB HK
          generalize wr.setCell ⟨g, (x5 : Int).toNat * 2, none⟩ (.int .i64 x1) = w2 at HH1 HR1 HB1 HK2 ⊢
          obtain ⟨_, _, _, _, _, hcc2, _⟩ := Kd.H_raw HH1.out HC5.out HI.out
          have z1 : w2.cell? ⟨g, (x5 : Int).toNat * 2 + 1, none⟩ = some (.slice Av (rd_T39 x0 x5).f1.length cv) := hcc2 1 _ rfl
          clear hcc2
          go_wp2_with (first | ((with_reducible refine gate_callee (f := 26) rfl ?_); refine goesL_ (some 25) rfl rfl Try.func26 (by kernel_rfl) rfl #[.slice Av (rd_T39 x0 x5).f1.length cv, .int .i64 (wrap64 (x1 + 1))] rfl (by (try simp only [List.map_toArray, List.map_cons, List.map_nil]); first | done | rfl) ?_; refine (laws_markAlarmS.calls k1 oki _ _ (rd_T39 x0 x5).f1 (wrap64 (x1 + 1)) b1 b2 w0 _ HB1.out HR1.out AL.out).mono ?_; rintro e w3 ⟨rfl, hy, hb, hk⟩; refine ⟨_, rfl, ?_⟩; have HY := aM hy; have HB2 := aM hb; have HK3 := aM (Kept.then_ HK2.out hk (fun k_ hk_ => Or.inl (HOK.out k_ hk_).1)); have HH2 := aM (Kd.H_kept HH1.out hk (fun k_ _ hn hs => hn hs)); clear hy hb hk z1 HH1 HR1 HB1 HK2))
          go_roundg k1
          case measure => have := HK1.out; omega
          case rel =>
            have h4 := Kd.H_back HH2.out (x' := (⟨x1, b2⟩ : S39)) (k39t_mkM _ _ oki (⟨x1, b2⟩ : S39) (v0 := .slice Av (rd_T39 x0 x5).f1.length cv) HY.out) (fun _ hk_ => hk_)
            exact ⟨_, _, _, (by first | rfl | (simp; done) | (simp [*]; done)), (by first | rfl | (simp; done) | (simp [*]; done)), H', ⟨by have := HK1.out; omega⟩, ⟨h4⟩, HK3, HB2⟩
        · rw [if_neg c5] at H
          exact absurd H (by simp)
      · rw [if_neg c3] at H
        simp only [Option.some.injEq, Prod.mk.injEq] at H
        obtain ⟨rfl, rfl⟩ := H
        have c3b : decide (x5 < (n0 : Int)) = false := decide_eq_false (by omega)
        clear c3 hlen
        go_wp2
        go_ret
        exact ⟨rfl, HO.out, HB.out, HK.out⟩
/-! ### laws_markPart: function 34 (by hand) -/
def laws_markPart.f (k : Nat) (a0_0 : Int) (a0_1 : Int) (l0_2 : List (S39)) (a1 : Int) : Option (Int × List (S39)) := laws_markChainS.f k l0_2 a1
set_option maxHeartbeats 8000000 in
set_option maxRecDepth 100000 in
theorem laws_markPart.calls (k : Nat) (P : Nat → Prop) (a0_0 : Int) (a0_1 : Int) (A0_2 : Option Addr) (c0_2 : Nat) (l0_2 : List (S39)) (a1 : Int) (r1 : Int) (r2 : List (S39)) (w0 w : World) (hB : Below w0.heap.size w0 w) (ho0 : Kd.S k39t 39 w w0.heap.size P (.slice A0_2 l0_2.length c0_2) l0_2) (h : laws_markPart.f k a0_0 a0_1 l0_2 a1 = some (r1, r2)) :
    Calls Try.prog 34 #[.agg #[.int .i64 a0_0, .int .i64 a0_1, .slice A0_2 l0_2.length c0_2], .int .i64 a1] w fun e w' => e = .returned (.int .i64 r1) ∧ Kd.S k39t 39 w' w0.heap.size P (.slice A0_2 l0_2.length c0_2) r2 ∧ Below w0.heap.size w0 w' ∧ Kept w w' P := by
  have hu := Try.underlying55
  have HO0 := aM ho0
  have HB := aM hB
  have HF := aM h
  clear ho0 hB h
  go_enter Try.func34, Try.ntmps34
  go_upto_region 1 with (first | ((with_reducible refine gate_dst (N := 2) rfl ?_); refine box_event ?hg (N := 2) ?hd (cs := #[.int .i64 a0_0, .int .i64 a0_1, .slice A0_2 l0_2.length c0_2]) (t := 55) ?hr ?_; (case hd => rfl); (case hg => rfl); (case hr => first | (go_simp; done) | (go_simp; rfl)); intro g2 hg w2 hbox hb; have HO1 := aM (Kd.S_below HO0.out hb); have HB1 := aM (below_step HB.out hb); have HK1 := aM (Kept.below (Kept.refl w P) hb); have z0 : w2.cell? ⟨g2, 0, none⟩ = some (.int .i64 a0_0) := (blk_cell hbox 0).trans rfl; have z1 : w2.cell? ⟨g2, 1, none⟩ = some (.int .i64 a0_1) := (blk_cell hbox 1).trans rfl; have z2 : w2.cell? ⟨g2, 2, none⟩ = some (.slice A0_2 l0_2.length c0_2) := (blk_cell hbox 2).trans rfl; clear hg hbox hb HO0 HB))
  go_wp2_with (first | ((with_reducible refine gate_callee (f := 73) rfl ?_); refine goesL_ (some 8) rfl rfl Try.func73 (by kernel_rfl) rfl #[.slice A0_2 l0_2.length c0_2, .int .i64 a1] rfl (by (try simp only [List.map_toArray, List.map_cons, List.map_nil]); first | done | rfl) ?_; refine (laws_markChainS.calls k P _ _ l0_2 a1 r1 r2 w0 _ HB1.out HO1.out HF.out).mono ?_; rintro e w3 ⟨rfl, hy, hb, hk⟩; refine ⟨_, rfl, ?_⟩; have HY := aM hy; have HB2 := aM hb; have HK2 := aM (Kept.then_ HK1.out hk (fun k_ hk_ => Or.inl hk_)); clear hy hb hk z0 z1 z2))
  try go_wp2
  go_ret
  exact ⟨rfl, HY.out, HB2.out, HK2.out⟩
/-! ### append(v, ys...) of a row whose elements' rows are told apart, to one whose are -/
section
variable {P : Program} {ops : Array Oper} {rest : List Oper} {o : Oper} {a : Act} {Q : Exit → Act → World → Prop} {α : Type}
open Classical in
theorem S_append_rows (d : Kd α) {w0 W : World} (base : Nat) (hgd : o.guard = none) (s x : Operand) (t e e' : TypeId) (z : Value) (bytes : Nat)
    (ho : o.op = .call { callee := .builtin .append, args := #[s, x], argTypes := #[t, t] })
    (ht : P.underlying t = some (.slice e)) (hinfo : (P.info? e).map (fun i => (i.zero, i.size, i.bytes)) = some (some z, d.sz, bytes)) (hz : z.cells.size = d.sz) (hs0 : 0 < d.sz) (hb0 : 0 < bytes)
    (v : Value) (xs ys : List α) (A : Option Addr) (m c : Nat) (ok okp : Nat → Prop) (hs : a.eval s = v) (hx : a.eval x = .slice A m c)
    (HO : Kd.S d e W base (fun k => ok k ∧ ¬ okp k) v xs) (HY : Kd.S d e' W base okp (.slice A m c) ys) (hokp : ∀ k, okp k → ok k ∧ some k ≠ v.ownBlock) (hfresh : ∀ k, W.heap.size ≤ k → ok k)
    (HB : Below base w0 W) (hbase : base ≤ W.heap.size) (hl : (xs.length + m) * bytes ≤ 140737488355328)
    (h : ∀ v1 w1, Kd.S d e w1 base ok v1 (xs ++ ys) → Below base w0 w1 → W.grownBy w1 v.ownBlock → (v1.ownBlock = v.ownBlock ∨ ∃ b, v1.ownBlock = some b ∧ W.heap.size ≤ b) → wpList P ops Q rest (a.put o.dst v1) w1) :
    wpList P ops Q (o :: rest) a W := by
  obtain ⟨f1, hR1⟩ := HO
  obtain ⟨g, hY⟩ := HY
  have hR := Kd.R_tag (f' := fun k => if okp k then xs.length + g k else f1 k) hR1 (fun k hk _ => if_neg hk.2)
  obtain ⟨A', c', he, hlc, hrow⟩ := OwnRow.reads hY.2
  injection he with e1 e2 e3
  subst e1
  subst e3
  rw [List.length_zipIdx] at e2
  have hsz : (Kd.tag g d).sz = d.sz := rfl
  refine Kd.R_append_rows (Kd.tag (fun k => if okp k then xs.length + g k else f1 k) d) (Rr := fun p cs => (Kd.tag (fun k => if okp k then xs.length + g k else f1 k) d).M W base okp p cs) base hgd s x t e z bytes ho ht hinfo hz hs0 hb0 v xs.zipIdx (ys.zipIdx xs.length) A m c ok okp hs hx (Kd.R_mono hR (fun _ hk => hk.1)) ?row (fun _ _ h => h) hokp hfresh HB hbase (by rw [List.length_zipIdx]; exact hl) ?_
  case row =>
    refine ⟨by rw [List.length_zipIdx]; exact e2.symm, by rw [List.length_zipIdx] at hrow; rw [e2]; exact hrow.2.1, fun hn => ?_⟩
    rw [List.length_zipIdx] at hrow
    obtain ⟨ad, ea, hc⟩ := hrow.2.2 (by omega)
    refine ⟨ad, ea, fun j p hj => ?_⟩
    rw [List.getElem?_zipIdx] at hj
    obtain ⟨y, hy, rfl⟩ := Option.map_eq_some_iff.1 hj
    obtain ⟨cs, hcs, hr, hcell⟩ := hc j (y, j) (Kd.zip_at hy)
    refine ⟨cs, hcs, ?_, hcell⟩
    exact d.M_mono (fun k hk => ⟨hk.1.1, by show (if okp k then xs.length + g k else f1 k) = _; rw [if_pos hk.1.1, hk.2]⟩) hr
  intro v1 w1 hr hb hg hat
  have e2_ : (xs ++ ys).zipIdx = xs.zipIdx ++ ys.zipIdx xs.length := by rw [List.zipIdx_append, Nat.zero_add]
  exact h v1 w1 ⟨fun k => if okp k then xs.length + g k else f1 k, by rw [e2_]; exact hr⟩ hb hg hat
end
/-! ### impl.AlarmsIn: function 32 (by hand) -/
def impl_AlarmsIn2.go (k : Nat) : List (S39) → List (S26) → Option (List (S26))
  | [], out => some out
  | c :: r, out => (impl_copyAlarms.f k c.f1).bind fun l => if out.length + l.length < 549755813888 then impl_AlarmsIn2.go k r (out ++ l) else none
def impl_AlarmsIn2.f (k : Nat) (a0_0 : Int) (a0_1 : Int) (l0_2 : List (S39)) : Option (List (S26)) := impl_AlarmsIn2.go k l0_2 []
theorem drop_at {α : Type} (z : α) (l : List α) (i : Nat) (h : i < l.length) : l.drop i = l.getD i z :: l.drop (i + 1) := by
  rw [List.drop_eq_getElem_cons h, List.getD_eq_getElem?_getD, List.getElem?_eq_getElem h]; rfl
set_option maxHeartbeats 8000000 in
set_option maxRecDepth 100000 in
theorem impl_AlarmsIn2.calls (k : Nat) (a0_0 : Int) (a0_1 : Int) (A0_2 : Option Addr) (c0_2 : Nat) (l0_2 : List (S39)) (r : List (S26)) (w : World) (hr0_2 : Kd.C k39 w A0_2 l0_2.length l0_2) (hc0_2 : l0_2.length ≤ c0_2) (h : impl_AlarmsIn2.f k a0_0 a0_1 l0_2 = some r) :
    Calls Try.prog 32 #[.agg #[.int .i64 a0_0, .int .i64 a0_1, .slice A0_2 l0_2.length c0_2]] w fun e w' => ∃ v0_ : Value, e = .returned (v0_) ∧ Kd.S k26 26 w' w.heap.size (fun _ => True) v0_ r ∧ Below w.heap.size w w' := by
  have HR := aM hr0_2
  have HC := aM hc0_2
  have HX := aM (show impl_AlarmsIn2.go k (l0_2.drop 0) [] = some r from h)
  clear hr0_2 hc0_2 h
  have hmx : l0_2.length ≤ 9223372036854775807 := HR.out.2.1
  go_enter Try.func32, Try.ntmps32
  go_upto_region 1 with (first | ((with_reducible refine gate_dst (N := 1) rfl ?_); refine box_event ?hg (N := 1) ?hd (cs := #[.int .i64 a0_0, .int .i64 a0_1, .slice A0_2 l0_2.length c0_2]) (t := 55) ?hr ?_; (case hd => rfl); (case hg => rfl); (case hr => first | (go_simp; done) | (go_simp; rfl)); intro g1 hg w2 hbox hb; have HB := aM hb; have z0 : w2.cell? ⟨g1, 0, none⟩ = some (.int .i64 a0_0) := (blk_cell hbox 0).trans rfl; have z1 : w2.cell? ⟨g1, 1, none⟩ = some (.int .i64 a0_1) := (blk_cell hbox 1).trans rfl; have z2 : w2.cell? ⟨g1, 2, none⟩ = some (.slice A0_2 l0_2.length c0_2) := (blk_cell hbox 2).trans rfl; clear hg hbox hb))
  go_wp2
  clear z0 z1 z2
  go_loopg [3, 9] l0_2.length (fun kx v3 v9 w' => ∃ (i : Nat) (out : List (S26)) (Ao : Option Addr) (co : Nat), v3 = .slice Ao out.length co ∧ v9 = .int .i64 (i : Int) ∧ i ≤ l0_2.length ∧ l0_2.length - i ≤ kx ∧ Aside0 (impl_AlarmsIn2.go k (l0_2.drop i) out = some r) ∧ Aside0 (Kd.S k26 26 w' w.heap.size (fun _ => True) (.slice Ao out.length co) out) ∧ Aside0 (Below w.heap.size w w'))
  case atStart => exact ⟨0, [], none, 0, rfl, rfl, Nat.zero_le _, Nat.le_refl _, HX, ⟨Kd.S_nil _ _ _ _ _⟩, HB⟩
  case round =>
    clear HX HB
    obtain ⟨i, out, Ao, co, rfl, rfl, hin, hkx, HG, HO, HB⟩ := hrel
    by_cases hlt : i < l0_2.length
    · have H := HG.out
      rw [drop_at z39 l0_2 i hlt] at H
      simp only [impl_AlarmsIn2.go] at H
      obtain ⟨ll, hl0, H⟩ := Option.bind_eq_some_iff.mp H
      have AL := aM (show impl_copyAlarms.f k (rd_T39 l0_2 (i : Int)).f1 = some ll from hl0)
      clear hl0 HG
      by_cases hN : out.length + ll.length < 549755813888
      · rw [if_pos hN] at H
        have H' := aM H
        have LM := aM hN
        clear H hN
        obtain ⟨ad, Aa, ca, rfl, hx0, hx1, hla, hCa⟩ := at_T39 HR.out (i : Int) (by omega) (by omega)
        simp only [Int.toNat_natCast] at hx0 hx1
        replace hx0 := pw_cell_below HB.out hx0
        replace hx1 := pw_cell_below HB.out hx1
        have HCa := aM (Kd.C_below hCa HB.out)
        have HLa := aM hla
        clear hla hCa
        have hltb : decide ((i : Int) < (l0_2.length : Int)) = true := decide_eq_true (by omega)
        have p0t : (0 ≤ (i : Int)) = True := eq_true (by omega)
        have q0t : ((i : Int) < (l0_2.length : Int)) = True := eq_true (by omega)
        have q1t : (i < l0_2.length) = True := eq_true hlt
        go_upto_region 5 with (first | ((with_reducible refine gate_dst (N := 5) rfl ?_); refine box_event ?hg (N := 5) ?hd (cs := #[.int .i64 0, .slice none 0 0]) (t := 39) ?hr ?_; (case hd => rfl); (case hg => rfl); (case hr => first | (go_simp; done) | (go_simp; rfl)); intro g5 hg w2 hbox hb; have HE := aM hg; have HV := aM hb; have HBK := aM hbox; have q0 := cz2_0 HBK; have q1 := cz2_1 HBK; have y0 := blk_frozen hbox 0; have y1 := blk_frozen hbox 1; clear hg hb hbox hx0 hx1))
        have hE := set2_below (b0 := (.int .i64 (rd_T39 l0_2 (i : Int)).f0)) (b1 := (.slice Aa (rd_T39 l0_2 (i : Int)).f1.length ca)) HV.out (Nat.le_of_eq HE.out.symm)
        have B5 := aM (set2_blk (b0 := (.int .i64 (rd_T39 l0_2 (i : Int)).f0)) (b1 := (.slice Aa (rd_T39 l0_2 (i : Int)).f1.length ca)) HBK.out)
        have HO1 := aM (Kd.S_below HO.out hE)
        have HC1 := aM (Kd.C_below HCa.out hE)
        have HB1 := aM (below_step HB.out hE)
        clear hE HE HV HBK q0 q1 y0 y1 HO HCa HB
        generalize ((w2.setCell ⟨g5, 0, none⟩ (.int .i64 (rd_T39 l0_2 (i : Int)).f0)).setCell ⟨g5, 1, none⟩ (.slice Aa (rd_T39 l0_2 (i : Int)).f1.length ca)) = w3 at B5 HO1 HC1 HB1 ⊢
        have z1 : w3.cell? ⟨g5, 1, none⟩ = some (.slice Aa (rd_T39 l0_2 (i : Int)).f1.length ca) := (blk_cell B5.out 1).trans rfl
        go_wp2_with (first | ((with_reducible refine gate_callee (f := 71) rfl ?_); refine goesL_ (some 16) rfl rfl Try.func71 (by kernel_rfl) rfl #[.slice Aa (rd_T39 l0_2 (i : Int)).f1.length ca] rfl (by (try simp only [List.map_toArray, List.map_cons, List.map_nil]); first | done | rfl) ?_; refine (impl_copyAlarms.calls k _ _ (rd_T39 l0_2 (i : Int)).f1 ll _ HC1.out HLa.out AL.out).mono ?_; rintro e w5 ⟨v5_, rfl, ho, hb⟩; obtain ⟨An, cn, rfl, _, _⟩ := Kd.S_reads ho; refine ⟨_, rfl, ?_⟩; have HSB := aM (Kd.S_bound HO1.out); have HO2 := aM (Kd.S_below HSB.out hb); have HSZ := aM hb.size; have HY := aM (Kd.S_lower (Kd.S_mono (Kd.S_bound ho) (fun k_ hk_ => hk_.2.1)) HB1.out.size); have HB2 := aM (below_step HB1.out hb); clear ho hb HO1 HSB HC1 HB1 B5 z1) | ((with_reducible refine gate_builtin (b := .append) (xs := #[.tmp 13, .tmp 16]) rfl ?_); at_builtin; refine S_append_rows k26 (w0 := w) w.heap.size rfl (.tmp 13) (.tmp 16) 37 26 26 (.agg #[(.slice none 0 0), (.int .i64 0), (.int .i64 0), (.string ⟨#[]⟩)]) 56 rfl Try.underlying37 info26 rfl (by decide) (by omega) (.slice Ao out.length co) out ll An ll.length cn (fun _ => True) (fun k_ => w3.heap.size ≤ k_) rfl rfl ?aO ?aY ?aQ (fun _ _ => trivial) HB2.out HB2.out.size ?aL ?_; (case aO => exact Kd.S_mono HO2.out (fun k_ hk_ => ⟨trivial, by have := hk_.2.2.1; omega⟩)); (case aY => exact HY.out); (case aQ => exact fun k_ hk_ => ⟨trivial, fun e_ => by have q_ := ((Kd.S_R HO2.out).1 k_ e_.symm).2.2.1; omega⟩); (case aL => have := LM.out; omega); intro v39 w6 ho hb hg hat; have HO3 := aM ho; have HB3 := aM hb; clear ho hb hg hat))
        obtain ⟨A6, c6, e6⟩ := Kd.S_slice HO3.out
        subst e6
        go_roundg (l0_2.length - (i + 1))
        case measure => omega
        case rel => exact ⟨i + 1, out ++ ll, A6, c6, rfl, by go_num, by omega, Nat.le_refl _, H', HO3, HB3⟩
      · rw [if_neg hN] at H; cases H
    · have hltb : decide ((i : Int) < (l0_2.length : Int)) = false := decide_eq_false (by omega)
      have H := HG.out
      rw [List.drop_eq_nil_of_le (by omega)] at H
      simp only [impl_AlarmsIn2.go, Option.some.injEq] at H
      subst H
      go_wp2
      go_ret
      exact ⟨_, rfl, HO.out, HB.out⟩
/-! ### spec.AlarmsIn: function 30 (by hand) -/
def spec_AlarmsIn2.go (k : Nat) : List (S39) → List (S26) → Option (List (S26))
  | [], out => some out
  | c :: r, out => (spec_l4All.f k c.f1).bind fun l => if out.length + l.length < 549755813888 then spec_AlarmsIn2.go k r (out ++ l) else none
def spec_AlarmsIn2.f (k : Nat) (a0_0 : Int) (a0_1 : Int) (l0_2 : List (S39)) : Option (List (S26)) := spec_AlarmsIn2.go k l0_2 []
set_option maxHeartbeats 8000000 in
set_option maxRecDepth 100000 in
theorem spec_AlarmsIn2.calls (k : Nat) (a0_0 : Int) (a0_1 : Int) (A0_2 : Option Addr) (c0_2 : Nat) (l0_2 : List (S39)) (r : List (S26)) (w : World) (hr0_2 : Kd.C k39 w A0_2 l0_2.length l0_2) (hc0_2 : l0_2.length ≤ c0_2) (h : spec_AlarmsIn2.f k a0_0 a0_1 l0_2 = some r) :
    Calls Try.prog 30 #[.agg #[.int .i64 a0_0, .int .i64 a0_1, .slice A0_2 l0_2.length c0_2]] w fun e w' => ∃ v0_ : Value, e = .returned (v0_) ∧ Kd.S k26 26 w' w.heap.size (fun _ => True) v0_ r ∧ Below w.heap.size w w' := by
  have HR := aM hr0_2
  have HC := aM hc0_2
  have HX := aM (show spec_AlarmsIn2.go k (l0_2.drop 0) [] = some r from h)
  clear hr0_2 hc0_2 h
  have hmx : l0_2.length ≤ 9223372036854775807 := HR.out.2.1
  go_enter Try.func30, Try.ntmps30
  go_upto_region 1 with (first | ((with_reducible refine gate_dst (N := 1) rfl ?_); refine box_event ?hg (N := 1) ?hd (cs := #[.int .i64 a0_0, .int .i64 a0_1, .slice A0_2 l0_2.length c0_2]) (t := 55) ?hr ?_; (case hd => rfl); (case hg => rfl); (case hr => first | (go_simp; done) | (go_simp; rfl)); intro g1 hg w2 hbox hb; have HB := aM hb; have BK := aM hbox; clear hg hbox hb))
  go_upto_region 2 with (fail)
  have HO0 := aM (show Kd.S k26 26 (w2.alloc (.cells #[] 26)) w.heap.size (fun _ => True) (.slice (some ⟨w2.heap.size, 0, none⟩) ([] : List S26).length 0) [] from ⟨fun _ => 0, fun _ _ => trivial, OwnRow.lit w2 w.heap.size (Reps.none _ _) HB.out.size (by simp)⟩)
  have HB0 := aM (show Below w.heap.size w (w2.alloc (.cells #[] 26)) from below_step HB.out (below_alloc (Below.refl _ _) _))
  have BK0 := aM (blk_below BK.out (below_alloc (Below.refl _ _) (.cells #[] 26)))
  clear HB BK
  generalize w2.alloc (.cells #[] 26) = w3 at HO0 HB0 BK0 ⊢
  go_wp2
  go_loopg [3, 4] l0_2.length (fun kx v3 v4 w' => ∃ (i : Nat) (out : List (S26)) (Ao : Option Addr) (co : Nat), v3 = .slice Ao out.length co ∧ v4 = .int .i64 (i : Int) ∧ i ≤ l0_2.length ∧ l0_2.length - i ≤ kx ∧ Aside0 (spec_AlarmsIn2.go k (l0_2.drop i) out = some r) ∧ Aside0 (Kd.S k26 26 w' w.heap.size (fun k_ => some k_ ≠ some g1) (.slice Ao out.length co) out) ∧ Aside0 (Below w.heap.size w w') ∧ Aside0 (w'.heap[g1]? = some (.cells #[.int .i64 a0_0, .int .i64 a0_1, .slice A0_2 l0_2.length c0_2] 55 (0, 0))))
  case atStart => exact ⟨0, [], _, 0, rfl, rfl, Nat.zero_le _, Nat.le_refl _, HX, ⟨Kd.S_mono (Kd.S_types HO0.out BK0.out (by decide)) (fun k_ h_ e_ => h_.2 (Option.some.inj e_))⟩, HB0, BK0⟩
  case round =>
    clear HX HB0 HO0 BK0
    obtain ⟨i, out, Ao, co, rfl, rfl, hin, hkx, HG, HO, HB, BK⟩ := hrel
    have z0 := (show wr.cell? ⟨g1, 0, none⟩ = some (.int .i64 a0_0) from (blk_cell BK.out 0).trans rfl)
    have z2 := (show wr.cell? ⟨g1, 2, none⟩ = some (.slice A0_2 l0_2.length c0_2) from (blk_cell BK.out 2).trans rfl)
    by_cases hlt : i < l0_2.length
    · have H := HG.out
      rw [drop_at z39 l0_2 i hlt] at H
      simp only [spec_AlarmsIn2.go] at H
      obtain ⟨ll, hl0, H⟩ := Option.bind_eq_some_iff.mp H
      have AL := aM (show spec_l4All.f k (rd_T39 l0_2 (i : Int)).f1 = some ll from hl0)
      clear hl0 HG
      by_cases hN : out.length + ll.length < 549755813888
      · rw [if_pos hN] at H
        have H' := aM H
        have LM := aM hN
        clear H hN
        obtain ⟨ad, Aa, ca, rfl, hx0, hx1, hla, hCa⟩ := at_T39 HR.out (i : Int) (by omega) (by omega)
        simp only [Int.toNat_natCast] at hx0 hx1
        replace hx0 := pw_cell_below HB.out hx0
        replace hx1 := pw_cell_below HB.out hx1
        have HCa := aM (Kd.C_below hCa HB.out)
        have HLa := aM hla
        clear hla hCa
        have hltb : decide ((i : Int) < (l0_2.length : Int)) = true := decide_eq_true (by omega)
        have p0t : (0 ≤ (i : Int)) = True := eq_true (by omega)
        have q0t : ((i : Int) < (l0_2.length : Int)) = True := eq_true (by omega)
        have q1t : (i < l0_2.length) = True := eq_true hlt
        go_wp2_with (first | ((with_reducible refine gate_callee (f := 69) rfl ?_); refine goesL_ (some 20) rfl rfl Try.func69 (by kernel_rfl) rfl #[.slice Aa (rd_T39 l0_2 (i : Int)).f1.length ca] rfl (by (try simp only [List.map_toArray, List.map_cons, List.map_nil]); first | done | rfl) ?_; refine (spec_l4All.calls k _ _ (rd_T39 l0_2 (i : Int)).f1 ll _ HCa.out HLa.out AL.out).mono ?_; rintro e w5 ⟨v5_, rfl, ho, hb⟩; obtain ⟨An, cn, rfl, _, _⟩ := Kd.S_reads ho; refine ⟨_, rfl, ?_⟩; have HSB := aM (Kd.S_bound HO.out); have HO2 := aM (Kd.S_below HSB.out hb); have HLT := aM (blk_lt BK.out); have HY := aM (Kd.S_lower (Kd.S_mono (Kd.S_bound ho) (fun k_ hk_ => hk_.2.1)) HB.out.size); have HB2 := aM (below_step HB.out hb); have BK2 := aM (blk_below BK.out hb); clear ho hb HO HSB HCa HB BK z0 z2 hx0 hx1) | ((with_reducible refine gate_builtin (b := .append) (xs := #[.tmp 13, .tmp 20]) rfl ?_); at_builtin; refine S_append_rows k26 (w0 := w) w.heap.size rfl (.tmp 13) (.tmp 20) 37 26 26 (.agg #[(.slice none 0 0), (.int .i64 0), (.int .i64 0), (.string ⟨#[]⟩)]) 56 rfl Try.underlying37 info26 rfl (by decide) (by omega) (.slice Ao out.length co) out ll An ll.length cn (fun k_ => some k_ ≠ some g1) (fun k_ => wr.heap.size ≤ k_) rfl rfl ?aO ?aY ?aQ ?aF HB2.out HB2.out.size ?aL ?_; (case aO => exact Kd.S_mono HO2.out (fun k_ hk_ => ⟨hk_.1, by have := hk_.2.2.1; omega⟩)); (case aY => exact HY.out); (case aF => exact fun k_ hk_ e_ => by have h1_ := blk_lt BK2.out; have h2_ := Option.some.inj e_; omega); (case aQ => exact fun k_ hk_ => ⟨fun e_ => by have h1_ := HLT.out; have h2_ := Option.some.inj e_; omega, fun e_ => by have q_ := ((Kd.S_R HO2.out).1 k_ e_.symm).2.2.1; omega⟩); (case aL => have := LM.out; omega); intro v39 w6 ho hb hg hat; have HO3 := aM ho; have HB3 := aM hb; have BK3 := aM ((hg.block g1 (blk_lt BK2.out) (fun e_ => ((Kd.S_R HO2.out).1 g1 e_.symm).1 rfl)).trans BK2.out); clear ho hb hg hat))
        obtain ⟨A6, c6, e6⟩ := Kd.S_slice HO3.out
        subst e6
        go_roundg (l0_2.length - (i + 1))
        case measure => omega
        case rel => exact ⟨i + 1, out ++ ll, A6, c6, rfl, by go_num, by omega, Nat.le_refl _, H', HO3, HB3, BK3⟩
      · rw [if_neg hN] at H; cases H
    · have hltb : decide ((i : Int) < (l0_2.length : Int)) = false := decide_eq_false (by omega)
      have H := HG.out
      rw [List.drop_eq_nil_of_le (by omega)] at H
      simp only [spec_AlarmsIn2.go, Option.some.injEq] at H
      subst H
      go_wp2
      go_ret
      exact ⟨_, rfl, Kd.S_mono HO.out (fun _ _ => trivial), HB.out⟩
def laws_FnExactAlarmsIn.T10 : Bool × List (List Nat × List Nat) := (true, [([], []), ([], []), ([1], [1]), ([0, 2, 2], [0, 2]), ([3], [3])])
def laws_FnExactAlarmsIn.B10 : List Nat := [0, 0, 2, 7, 15]
theorem laws_FnExactAlarmsIn.tab10 : rtab .any (opsOf Try.f5 10) = laws_FnExactAlarmsIn.T10 := by kernel_rfl
theorem laws_FnExactAlarmsIn.bits10 : waitsOk laws_FnExactAlarmsIn.T10.2 laws_FnExactAlarmsIn.B10 = true := by kernel_rfl
set_option maxHeartbeats 16000000 in
set_option maxRecDepth 100000 in
theorem laws_FnExactAlarmsIn.early1 (k : Nat) (a0_0 : Int) (a0_1 : Int) (A0_2 : Option Addr) (c0_2 : Nat) (l0_2 : List S35) (w : World) (hr0_2 : Kd.C k35 w A0_2 l0_2.length l0_2) (hc0_2 : l0_2.length ≤ c0_2) (q1 : Int)
  (F1 : Aside0 (laws_szPart.f k a0_0 a0_1 l0_2 1048576 = some q1))
  (K0 : Aside0 (decide (q1 < 0) = true)) :
  Calls Try.prog 5 #[.agg #[.int .i64 a0_0, .int .i64 a0_1, .slice A0_2 l0_2.length c0_2]] w fun e w' => e = .returned (.bool true) ∧ Below w.heap.size w w' := by
 have Hc0_2 := aM hc0_2
 have HR0_2 := aM hr0_2
 have G := (Gs.below w).add (Gs.top (Nat.le_refl w.heap.size))
 clear hc0_2 hr0_2
 go_enter Try.func5, Try.ntmps5
 go_upto_region 1 with (first | ((with_reducible refine gate_dst (N := 1) rfl ?_); refine box_event ?hg (N := 1) ?hd (cs := #[.int .i64 a0_0, .int .i64 a0_1, .slice A0_2 l0_2.length c0_2]) (t := 50) ?hr ?_; (case hd => rfl); (case hg => rfl); (case hr => first | (go_simp; done) | (go_simp; rfl)); intro g1 hg w2 hbox hb; have Hg1 := aM (show w.heap.size ≤ g1 from hg ▸ G.at_.2); have G1 := (((G.go hb).add (Gs.ofBox3 hbox)).add (Gs.top (Nat.succ_le_of_lt (blk_lt hbox)))); clear hb hbox hg G; have G := G1; clear G1))
 go_upto_region 2 with (fail)
 obtain ⟨zg1_0, zg1_1, zg1_2⟩ := G.at_.1.2
 go_upto_region 3 with (first | ((with_reducible refine gate_callee (f := 29) rfl ?_); refine goesL_ (some 13) rfl rfl Try.func29 (by kernel_rfl) rfl #[.agg #[.int .i64 a0_0, .int .i64 a0_1, .slice A0_2 l0_2.length c0_2], .int .i64 1048576] rfl (by (try simp only [List.map_toArray, List.map_cons, List.map_nil]); first | done | rfl) ?_; refine (laws_szPart.calls k a0_0 a0_1 _ _ l0_2 1048576 q1 _ (Kd.C_below HR0_2.out G.at_.1.1.1) Hc0_2.out F1.out).mono ?_; rintro e w1 ⟨rfl, hb⟩; refine ⟨_, rfl, ?_⟩; have G1 := (G.go hb); clear G hb; have G := G1; clear G1))
 (try clear zg1_0)
 (try clear zg1_1)
 (try clear zg1_2)
 have hk0_ := K0.out
 try go_wp2
 try go_wp2
 go_ret
 exact ⟨rfl, G.at_.1.1.1⟩
set_option maxHeartbeats 16000000 in
set_option maxRecDepth 100000 in
theorem laws_FnExactAlarmsIn.way (k : Nat) (a0_0 : Int) (a0_1 : Int) (A0_2 : Option Addr) (c0_2 : Nat) (l0_2 : List S35) (w : World) (hr0_2 : Kd.C k35 w A0_2 l0_2.length l0_2) (hc0_2 : l0_2.length ≤ c0_2) (q1 : Int) (ph : Int) (pv : Int) (pl : List (S39)) (ao : List (S26)) (e1 : Int) (pm : List (S39)) (e2 : Int) (am : List (S26))
  (F1 : Aside0 (laws_szPart.f k a0_0 a0_1 l0_2 1048576 = some q1))
  (F2 : Aside0 (laws_toPart.f k a0_0 a0_1 l0_2 = some (ph, pv, pl)))
  (F3 : Aside0 (spec_AlarmsIn2.f k ph pv pl = some ao))
  (F4 : Aside0 (impl_AlarmsIn2.f k ph pv pl = some ao))
  (F5 : Aside0 (laws_eqAlarmS.f k ao ao = some true))
  (F6 : Aside0 (laws_eqPart.f k ph pv pl ph pv pl = some true))
  (F7 : Aside0 (laws_markPart.f k ph pv pl 1 = some (e1, pm)))
  (F8 : Aside0 (laws_markAlarmS.f k ao 1 = some (e2, am)))
  (F9 : Aside0 (laws_heldAlarmS.f k am 1 = some e2))
  (K0 : Aside0 (decide (q1 < 0) = false))
  (K1 : Aside0 (decide (e1 < 0) = false))
  (K2 : Aside0 (decide (e2 < 0) = false))
  (K3 : Aside0 ((e2 != e2) = false)) :
  Calls Try.prog 5 #[.agg #[.int .i64 a0_0, .int .i64 a0_1, .slice A0_2 l0_2.length c0_2]] w fun e w' => e = .returned (.bool true) ∧ Below w.heap.size w w' := by
 have Hc0_2 := aM hc0_2
 have HR0_2 := aM hr0_2
 have G := (Gs.below w).add (Gs.top (Nat.le_refl w.heap.size))
 clear hc0_2 hr0_2
 go_enter Try.func5, Try.ntmps5
 go_upto_region 1 with (first | ((with_reducible refine gate_dst (N := 1) rfl ?_); refine box_event ?hg (N := 1) ?hd (cs := #[.int .i64 a0_0, .int .i64 a0_1, .slice A0_2 l0_2.length c0_2]) (t := 50) ?hr ?_; (case hd => rfl); (case hg => rfl); (case hr => first | (go_simp; done) | (go_simp; rfl)); intro g1 hg w2 hbox hb; have Hg1 := aM (show w.heap.size ≤ g1 from hg ▸ G.at_.2); have G1 := (((G.go hb).add (Gs.ofBox3 hbox)).add (Gs.top (Nat.succ_le_of_lt (blk_lt hbox)))); clear hb hbox hg G; have G := G1; clear G1))
 go_upto_region 2 with (fail)
 obtain ⟨zg1_0, zg1_1, zg1_2⟩ := G.at_.1.2
 go_upto_region 3 with (first | ((with_reducible refine gate_callee (f := 29) rfl ?_); refine goesL_ (some 13) rfl rfl Try.func29 (by kernel_rfl) rfl #[.agg #[.int .i64 a0_0, .int .i64 a0_1, .slice A0_2 l0_2.length c0_2], .int .i64 1048576] rfl (by (try simp only [List.map_toArray, List.map_cons, List.map_nil]); first | done | rfl) ?_; refine (laws_szPart.calls k a0_0 a0_1 _ _ l0_2 1048576 q1 _ (Kd.C_below HR0_2.out G.at_.1.1.1) Hc0_2.out F1.out).mono ?_; rintro e w1 ⟨rfl, hb⟩; refine ⟨_, rfl, ?_⟩; have G1 := (G.go hb); clear G hb; have G := G1; clear G1))
 (try clear zg1_0)
 (try clear zg1_1)
 (try clear zg1_2)
 have hk0_ := K0.out
 go_upto_region 5 with (fail)
 obtain ⟨zg1_0, zg1_1, zg1_2⟩ := G.at_.1.2
 go_upto_region 6 with (first | ((with_reducible refine gate_callee (f := 31) rfl ?_); refine goesL_ (some 17) rfl rfl Try.func31 (by kernel_rfl) rfl #[.agg #[.int .i64 a0_0, .int .i64 a0_1, .slice A0_2 l0_2.length c0_2]] rfl (by (try simp only [List.map_toArray, List.map_cons, List.map_nil]); first | done | rfl) ?_; refine (laws_toPart2.calls k a0_0 a0_1 _ _ l0_2 ph pv pl _ (Kd.C_below HR0_2.out G.at_.1.1.1) Hc0_2.out F2.out).mono ?_; rintro e w1 ⟨v17_0, rfl, ho17_0, hb⟩; refine ⟨_, rfl, ?_⟩; obtain ⟨A17_0, c17_0, rfl, _, _⟩ := Kd.S_reads ho17_0; obtain ⟨loA17_0, hiA17_0, hOA17_0, hTA17_0, hSA17_0⟩ := newS G.at_.2 G.at_.1.1.1 hb ho17_0; have OA17_0 := aM hOA17_0; clear hOA17_0 ho17_0; have G1 := (((G.go hb).add (Gs.ownS hSA17_0)).add (Gs.top hTA17_0)); clear G hb hSA17_0 hTA17_0; have G := G1; clear G1) | ((with_reducible refine gate_callee (f := 30) rfl ?_); refine goesL_ (some 18) rfl rfl Try.func30 (by kernel_rfl) rfl #[.agg #[.int .i64 ph, .int .i64 pv, .slice A17_0 pl.length c17_0]] rfl (by (try simp only [List.map_toArray, List.map_cons, List.map_nil]); first | done | rfl) ?_; refine (spec_AlarmsIn2.calls k ph pv _ _ pl ao _ (Kd.S_reads' G.at_.1.2).2.2 ((Kd.S_reads' G.at_.1.2).1 ▸ (Kd.S_reads' G.at_.1.2).2.1) F3.out).mono ?_; rintro e w1 ⟨v18_0, rfl, ho18_0, hb⟩; refine ⟨_, rfl, ?_⟩; obtain ⟨A18_0, c18_0, rfl, _, _⟩ := Kd.S_reads ho18_0; obtain ⟨loA18_0, hiA18_0, hOA18_0, hTA18_0, hSA18_0⟩ := newS G.at_.2 G.at_.1.1.1.1.1 hb ho18_0; have OA18_0 := aM hOA18_0; clear hOA18_0 ho18_0; have G1 := (((G.go hb).add (Gs.ownS hSA18_0)).add (Gs.top hTA18_0)); clear G hb hSA18_0 hTA18_0; have G := G1; clear G1))
 (try clear zg1_0)
 (try clear zg1_1)
 (try clear zg1_2)
 obtain ⟨zg1_0, zg1_1, zg1_2⟩ := G.at_.1.1.1.1.1.2
 go_upto_region 7 with (first | ((with_reducible refine gate_callee (f := 31) rfl ?_); refine goesL_ (some 20) rfl rfl Try.func31 (by kernel_rfl) rfl #[.agg #[.int .i64 a0_0, .int .i64 a0_1, .slice A0_2 l0_2.length c0_2]] rfl (by (try simp only [List.map_toArray, List.map_cons, List.map_nil]); first | done | rfl) ?_; refine (laws_toPart2.calls k a0_0 a0_1 _ _ l0_2 ph pv pl _ (Kd.C_below HR0_2.out G.at_.1.1.1.1.1.1.1) Hc0_2.out F2.out).mono ?_; rintro e w1 ⟨v20_0, rfl, ho20_0, hb⟩; refine ⟨_, rfl, ?_⟩; obtain ⟨A20_0, c20_0, rfl, _, _⟩ := Kd.S_reads ho20_0; obtain ⟨loA20_0, hiA20_0, hOA20_0, hTA20_0, hSA20_0⟩ := newS G.at_.2 G.at_.1.1.1.1.1.1.1 hb ho20_0; have OA20_0 := aM hOA20_0; clear hOA20_0 ho20_0; have G1 := (((G.go hb).add (Gs.ownS hSA20_0)).add (Gs.top hTA20_0)); clear G hb hSA20_0 hTA20_0; have G := G1; clear G1) | ((with_reducible refine gate_dst (N := 5) rfl ?_); refine box_event ?hg (N := 5) ?hd (cs := #[.int .i64 0, .int .i64 0, .slice none 0 0]) (t := 55) ?hr ?_; (case hd => rfl); (case hg => rfl); (case hr => first | (go_simp; done) | (go_simp; rfl)); intro g5 hg w2 hbox hb; have Hg5 := aM (show hiA20_0 ≤ g5 from hg ▸ G.at_.2); have HB_g5 := aM hb; have HE_g5 := aM hg; have BK_g5 := aM hbox; have zg5_0 := cz3_0 ⟨hbox⟩; have yg5_0 := blk_frozen hbox 0; have zg5_1 := cz3_1 ⟨hbox⟩; have yg5_1 := blk_frozen hbox 1; have zg5_2 := cz3_2 ⟨hbox⟩; have yg5_2 := blk_frozen hbox 2; clear hb hbox hg))
 (try clear zg1_0)
 (try clear zg1_1)
 (try clear zg1_2)
 (try clear zg5_0)
 (try clear yg5_0)
 (try clear zg5_1)
 (try clear yg5_1)
 (try clear zg5_2)
 (try clear yg5_2)
 have G1 := ((Gs.put3 (.int .i64 ph) (.int .i64 pv) (.slice A20_0 pl.length c20_0) G HB_g5 HE_g5 BK_g5)).add (Gs.top (Nat.succ_le_of_lt (blk_lt (set3_blk BK_g5.out))))
 clear G; have G := G1; clear G1
 generalize (((w2.setCell ⟨g5, 0, none⟩ (.int .i64 ph)).setCell ⟨g5, 1, none⟩ (.int .i64 pv)).setCell ⟨g5, 2, none⟩ (.slice A20_0 pl.length c20_0)) = w3 at G ⊢
 clear HB_g5 HE_g5 BK_g5
 obtain ⟨zg5_0, zg5_1, zg5_2⟩ := G.at_.1.2
 go_upto_region 8 with (first | ((with_reducible refine gate_callee (f := 32) rfl ?_); refine goesL_ (some 22) rfl rfl Try.func32 (by kernel_rfl) rfl #[.agg #[.int .i64 ph, .int .i64 pv, .slice A20_0 pl.length c20_0]] rfl (by (try simp only [List.map_toArray, List.map_cons, List.map_nil]); first | done | rfl) ?_; refine (impl_AlarmsIn2.calls k ph pv _ _ pl ao _ (Kd.S_reads' G.at_.1.1.1.2).2.2 ((Kd.S_reads' G.at_.1.1.1.2).1 ▸ (Kd.S_reads' G.at_.1.1.1.2).2.1) F4.out).mono ?_; rintro e w1 ⟨v22_0, rfl, ho22_0, hb⟩; refine ⟨_, rfl, ?_⟩; obtain ⟨A22_0, c22_0, rfl, _, _⟩ := Kd.S_reads ho22_0; obtain ⟨loA22_0, hiA22_0, hOA22_0, hTA22_0, hSA22_0⟩ := newS G.at_.2 G.at_.1.1.1.1.1.1.1.1.1.1.1 hb ho22_0; have OA22_0 := aM hOA22_0; clear hOA22_0 ho22_0; have G1 := (((G.go hb).add (Gs.ownS hSA22_0)).add (Gs.top hTA22_0)); clear G hb hSA22_0 hTA22_0; have G := G1; clear G1))
 (try clear zg5_0)
 (try clear zg5_1)
 (try clear zg5_2)
 go_upto_region 10 with (first | ((with_reducible refine gate_callee (f := 24) rfl ?_); refine goesL_ (some 25) rfl rfl Try.func24 (by kernel_rfl) rfl #[.slice A22_0 ao.length c22_0, .slice A18_0 ao.length c18_0] rfl (by (try simp only [List.map_toArray, List.map_cons, List.map_nil]); first | done | rfl) ?_; refine (laws_eqAlarmS.calls k _ _ ao _ _ ao true _ (Kd.S_reads' G.at_.1.2).2.2 ((Kd.S_reads' G.at_.1.2).1 ▸ (Kd.S_reads' G.at_.1.2).2.1) (Kd.S_reads' G.at_.1.1.1.1.1.1.1.2).2.2 ((Kd.S_reads' G.at_.1.1.1.1.1.1.1.2).1 ▸ (Kd.S_reads' G.at_.1.1.1.1.1.1.1.2).2.1) F5.out).mono ?_; rintro e w1 ⟨rfl, hb⟩; refine ⟨_, rfl, ?_⟩; have G1 := (G.go hb); clear G hb; have G := G1; clear G1))
 refine Gs.hide G (fun Ψ GP hP hQ => ?_)
 clear G
 refine regD [] GP (by kernel_rfl) rfl laws_FnExactAlarmsIn.tab10 laws_FnExactAlarmsIn.bits10 (fun wr hbr GV HT_ HW_ => ?_)
 clear GP hbr
 have HB := aM (Below.refl wr.heap.size wr)
 refine (tk 0 (some 27) 1 ?_ ?_ HT_ HW_ rfl rfl (by kernel_rfl) (fun _ _ _ h => h) (GV.go HB.out).at_ ?_ ?_ ?_ (tk 1 (some 28) 3 ?_ ?_ HT_ HW_ rfl rfl (by kernel_rfl) (fun _ _ _ h => h) (GV.go HB.out).at_ ?_ ?_ ?_ ?_))
 all_goals first | (rintro w' hp_; obtain ⟨⟨⟨⟨⟨⟨⟨⟨⟨⟨⟨⟨⟨-, -⟩, ⟨s0, s1, s2⟩⟩, -⟩, -⟩, -⟩, -⟩, -⟩, -⟩, -⟩, ⟨s3, s4, s5⟩⟩, -⟩, -⟩, -⟩ := hP _ hp_; go_simp; with_reducible rfl) | (intro w'; go_simp; with_reducible rfl) | (simp only [Act.put, List.setIfInBounds_toArray, List.set_cons_zero, List.set_cons_succ, i64_w, i32_w]; rfl) | rfl | skip
 refine rcD 2 29 7 HT_ rfl rfl (by decide) (by kernel_rfl) Try.func31 (by kernel_rfl) rfl rfl #[.agg #[.int .i64 a0_0, .int .i64 a0_1, .slice A0_2 l0_2.length c0_2]] (by rfl) (by (try simp only [List.map_toArray, List.map_cons, List.map_nil]); first | done | rfl) ?_
 refine (laws_toPart2.calls k a0_0 a0_1 _ _ l0_2 ph pv pl _ (Kd.C_below HR0_2.out (hP _ (GV.go HB.out).at_).1.1.1.1.1.1.1.1.1.1.1.1.1) Hc0_2.out F2.out).mono ?_
 rintro e w1 ⟨v29_0, rfl, ho29_0, hb⟩
 obtain ⟨A29_0, c29_0, rfl, _, _⟩ := Kd.S_reads ho29_0
 have hTop := (hP _ (GV.go HB.out).at_).2
 obtain ⟨loA29_0, hiA29_0, hOA29_0, hTA29_0, hSA29_0⟩ := newS (Nat.le_refl _) (hP _ (GV.go HB.out).at_).1.1.1.1.1.1.1.1.1.1.1.1.1 hb ho29_0
 have XA29_0 := Gs.ownS hSA29_0
 have OA29_0 := aM (And.intro (Nat.le_trans hTop hOA29_0.1) hOA29_0.2)
 (try clear HTI)
 have HTI := aM hTA29_0
 clear hTop
 have HB1 := aM (below_step HB.out hb); clear HB hb hOA29_0 hTA29_0 hSA29_0 ho29_0; have HB := HB1; clear HB1
 refine ⟨_, rfl, (GV.go HB.out).at_, ?_⟩; intro a' ha; simp only [Act.put, List.setIfInBounds_toArray, List.set_cons_zero, List.set_cons_succ, i64_w, i32_w] at ha; subst ha
 refine rcD 3 30 15 HT_ rfl rfl (by decide) (by kernel_rfl) Try.func33 (by kernel_rfl) rfl rfl #[.agg #[.int .i64 ph, .int .i64 pv, .slice A20_0 pl.length c20_0], .agg #[.int .i64 ph, .int .i64 pv, .slice A29_0 pl.length c29_0]] (by rfl) (by (try simp only [List.map_toArray, List.map_cons, List.map_nil]); first | done | rfl) ?_
 refine (laws_eqPart.calls k ph pv _ _ pl ph pv _ _ pl true _ (Kd.S_reads' (hP _ (GV.go HB.out).at_).1.1.1.1.1.2).2.2 ((Kd.S_reads' (hP _ (GV.go HB.out).at_).1.1.1.1.1.2).1 ▸ (Kd.S_reads' (hP _ (GV.go HB.out).at_).1.1.1.1.1.2).2.1) (Kd.S_reads' XA29_0.at_).2.2 ((Kd.S_reads' XA29_0.at_).1 ▸ (Kd.S_reads' XA29_0.at_).2.1) F6.out).mono ?_
 rintro e w1 ⟨rfl, hb⟩
 replace XA29_0 := XA29_0.go hb
 have HB1 := aM (below_step HB.out hb); clear HB hb; have HB := HB1; clear HB1
 refine ⟨_, rfl, (GV.go HB.out).at_, ?_⟩; intro a' ha; simp only [Act.put, List.setIfInBounds_toArray, List.set_cons_zero, List.set_cons_succ, i64_w, i32_w] at ha; subst ha
 refine (pu 4 (some 31) 31 ?_ ?_ HT_ rfl rfl (by kernel_rfl) (fun _ _ _ h => h) ?_ ?_ ?_ ?_)
 all_goals first | (rintro w' hp_; obtain ⟨⟨⟨⟨⟨⟨⟨⟨⟨⟨⟨⟨⟨-, -⟩, ⟨s0, s1, s2⟩⟩, -⟩, -⟩, -⟩, -⟩, -⟩, -⟩, -⟩, ⟨s3, s4, s5⟩⟩, -⟩, -⟩, -⟩ := hP _ hp_; go_simp; with_reducible rfl) | (intro w'; go_simp; with_reducible rfl) | (simp only [Act.put, List.setIfInBounds_toArray, List.set_cons_zero, List.set_cons_succ, i64_w, i32_w]; rfl) | rfl | skip
 refine done_ (done_of HT_.out (by kernel_rfl)) ?_
 have G := hQ _ (GV.go HB.out)
 clear GV hP hQ HB
 go_upto_region 12 with (fail)
 go_upto_region 13 with (fail)
 obtain ⟨zg5_0, zg5_1, zg5_2⟩ := G.at_.1.1.1.2
 go_upto_region 14 with (first | ((with_reducible refine gate_callee (f := 34) rfl ?_); refine goesL_ (some 34) rfl rfl Try.func34 (by kernel_rfl) rfl #[.agg #[.int .i64 ph, .int .i64 pv, .slice A20_0 pl.length c20_0], .int .i64 1] rfl (by (try simp only [List.map_toArray, List.map_cons, List.map_nil]); first | done | rfl) ?_; refine (laws_markPart.calls k (Iv loA20_0 hiA20_0) ph pv _ _ pl 1 e1 pm w _ G.at_.1.1.1.1.1.1.1.1.1.1.1.1.1 G.at_.1.1.1.1.1.2 F7.out).mono ?_; rintro e w1 ⟨rfl, hy, hb, hk⟩; refine ⟨_, rfl, ?_⟩; have G1 := ((((((((((((((Gs.bel hb).add (Gs.top (Nat.le_trans G.at_.1.1.1.1.1.1.1.1.1.1.1.1.2 hk.1))).add (Gs.ofB3 (box3_kept G.at_.1.1.1.1.1.1.1.1.1.1.1.2 hk (fun h1_ => (by unfold Iv at *; have o0_ := Hg1.out; have o1_ := OA17_0.out; have o2_ := OA18_0.out; have o3_ := OA20_0.out; have o4_ := Hg5.out; have o5_ := OA22_0.out; omega))))).add (Gs.top (Nat.le_trans G.at_.1.1.1.1.1.1.1.1.1.1.2 hk.1))).add (Gs.ownS (Kd.S_kept G.at_.1.1.1.1.1.1.1.1.1.2 hk (fun k_ h1_ h2_ => (by unfold Iv at *; have o0_ := Hg1.out; have o1_ := OA17_0.out; have o2_ := OA18_0.out; have o3_ := OA20_0.out; have o4_ := Hg5.out; have o5_ := OA22_0.out; omega))))).add (Gs.top (Nat.le_trans G.at_.1.1.1.1.1.1.1.1.2 hk.1))).add (Gs.ownS (Kd.S_kept G.at_.1.1.1.1.1.1.1.2 hk (fun k_ h1_ h2_ => (by unfold Iv at *; have o0_ := Hg1.out; have o1_ := OA17_0.out; have o2_ := OA18_0.out; have o3_ := OA20_0.out; have o4_ := Hg5.out; have o5_ := OA22_0.out; omega))))).add (Gs.top (Nat.le_trans G.at_.1.1.1.1.1.1.2 hk.1))).add (Gs.ownS hy)).add (Gs.top (Nat.le_trans G.at_.1.1.1.1.2 hk.1))).add (Gs.ofB3 (box3_kept G.at_.1.1.1.2 hk (fun h1_ => (by unfold Iv at *; have o0_ := Hg1.out; have o1_ := OA17_0.out; have o2_ := OA18_0.out; have o3_ := OA20_0.out; have o4_ := Hg5.out; have o5_ := OA22_0.out; omega))))).add (Gs.top (Nat.le_trans G.at_.1.1.2 hk.1))).add (Gs.ownS (Kd.S_kept G.at_.1.2 hk (fun k_ h1_ h2_ => (by unfold Iv at *; have o0_ := Hg1.out; have o1_ := OA17_0.out; have o2_ := OA18_0.out; have o3_ := OA20_0.out; have o4_ := Hg5.out; have o5_ := OA22_0.out; omega))))).add (Gs.top (Nat.le_trans G.at_.2 hk.1))); have HLA20_0 := aM (Kd.S_reads' hy).1.symm; clear G hy hb hk; have G := G1; clear G1))
 (try clear zg5_0)
 (try clear zg5_1)
 (try clear zg5_2)
 have hk1_ := K1.out
 go_upto_region 16 with (first | ((with_reducible refine gate_callee (f := 24) rfl ?_); refine gate_guard (by rfl) ?_; refine goesL_ (some 40) rfl rfl Try.func24 (by kernel_rfl) rfl #[.slice A22_0 ao.length c22_0, .slice A18_0 ao.length c18_0] rfl (by (try simp only [List.map_toArray, List.map_cons, List.map_nil]); first | done | rfl) ?_; refine (laws_eqAlarmS.calls k _ _ ao _ _ ao true _ (Kd.S_reads' G.at_.1.2).2.2 ((Kd.S_reads' G.at_.1.2).1 ▸ (Kd.S_reads' G.at_.1.2).2.1) (Kd.S_reads' G.at_.1.1.1.1.1.1.1.2).2.2 ((Kd.S_reads' G.at_.1.1.1.1.1.1.1.2).1 ▸ (Kd.S_reads' G.at_.1.1.1.1.1.1.1.2).2.1) F5.out).mono ?_; rintro e w1 ⟨rfl, hb⟩; refine ⟨_, rfl, ?_⟩; have G1 := (G.go hb); clear G hb; have G := G1; clear G1))
 go_upto_region 17 with (fail)
 go_upto_region 18 with (first | ((with_reducible refine gate_callee (f := 26) rfl ?_); refine goesL_ (some 45) rfl rfl Try.func26 (by kernel_rfl) rfl #[.slice A22_0 ao.length c22_0, .int .i64 1] rfl (by (try simp only [List.map_toArray, List.map_cons, List.map_nil]); first | done | rfl) ?_; refine (laws_markAlarmS.calls k (Iv loA22_0 hiA22_0) _ _ ao 1 e2 am w _ G.at_.1.1.1.1.1.1.1.1.1.1.1.1.1 G.at_.1.2 F8.out).mono ?_; rintro e w1 ⟨rfl, hy, hb, hk⟩; refine ⟨_, rfl, ?_⟩; have G1 := ((((((((((((((Gs.bel hb).add (Gs.top (Nat.le_trans G.at_.1.1.1.1.1.1.1.1.1.1.1.1.2 hk.1))).add (Gs.ofB3 (box3_kept G.at_.1.1.1.1.1.1.1.1.1.1.1.2 hk (fun h1_ => (by unfold Iv at *; have o0_ := Hg1.out; have o1_ := OA17_0.out; have o2_ := OA18_0.out; have o3_ := OA20_0.out; have o4_ := Hg5.out; have o5_ := OA22_0.out; omega))))).add (Gs.top (Nat.le_trans G.at_.1.1.1.1.1.1.1.1.1.1.2 hk.1))).add (Gs.ownS (Kd.S_kept G.at_.1.1.1.1.1.1.1.1.1.2 hk (fun k_ h1_ h2_ => (by unfold Iv at *; have o0_ := Hg1.out; have o1_ := OA17_0.out; have o2_ := OA18_0.out; have o3_ := OA20_0.out; have o4_ := Hg5.out; have o5_ := OA22_0.out; omega))))).add (Gs.top (Nat.le_trans G.at_.1.1.1.1.1.1.1.1.2 hk.1))).add (Gs.ownS (Kd.S_kept G.at_.1.1.1.1.1.1.1.2 hk (fun k_ h1_ h2_ => (by unfold Iv at *; have o0_ := Hg1.out; have o1_ := OA17_0.out; have o2_ := OA18_0.out; have o3_ := OA20_0.out; have o4_ := Hg5.out; have o5_ := OA22_0.out; omega))))).add (Gs.top (Nat.le_trans G.at_.1.1.1.1.1.1.2 hk.1))).add (Gs.ownS (Kd.S_kept G.at_.1.1.1.1.1.2 hk (fun k_ h1_ h2_ => (by unfold Iv at *; have o0_ := Hg1.out; have o1_ := OA17_0.out; have o2_ := OA18_0.out; have o3_ := OA20_0.out; have o4_ := Hg5.out; have o5_ := OA22_0.out; omega))))).add (Gs.top (Nat.le_trans G.at_.1.1.1.1.2 hk.1))).add (Gs.ofB3 (box3_kept G.at_.1.1.1.2 hk (fun h1_ => (by unfold Iv at *; have o0_ := Hg1.out; have o1_ := OA17_0.out; have o2_ := OA18_0.out; have o3_ := OA20_0.out; have o4_ := Hg5.out; have o5_ := OA22_0.out; omega))))).add (Gs.top (Nat.le_trans G.at_.1.1.2 hk.1))).add (Gs.ownS hy)).add (Gs.top (Nat.le_trans G.at_.2 hk.1))); have HLA22_0 := aM (Kd.S_reads' hy).1.symm; clear G hy hb hk; have G := G1; clear G1))
 go_upto_region 19 with (fail)
 go_upto_region 20 with (first | ((with_reducible refine gate_callee (f := 28) rfl ?_); refine goesL_ (some 48) rfl rfl Try.func28 (by kernel_rfl) rfl #[.slice A22_0 am.length c22_0, .int .i64 1] rfl (by (try simp only [List.map_toArray, List.map_cons, List.map_nil]); first | done | rfl | (simp only [HLA20_0.out, HLA22_0.out]; rfl)) ?_; refine (laws_heldAlarmS.calls k _ _ am 1 e2 _ (Kd.S_reads' G.at_.1.2).2.2 ((Kd.S_reads' G.at_.1.2).1 ▸ (Kd.S_reads' G.at_.1.2).2.1) F9.out).mono ?_; rintro e w1 ⟨rfl, hb⟩; refine ⟨_, rfl, ?_⟩; have G1 := (G.go hb); clear G hb; have G := G1; clear G1))
 have hk2_ := K2.out
 go_upto_region 22 with (fail)
 have hk3_ := K3.out
 go_upto_region 24 with (fail)
 obtain ⟨zg1_0, zg1_1, zg1_2⟩ := G.at_.1.1.1.1.1.1.1.1.1.1.1.2
 go_upto_region 25 with (first | ((with_reducible refine gate_callee (f := 31) rfl ?_); refine goesL_ (some 55) rfl rfl Try.func31 (by kernel_rfl) rfl #[.agg #[.int .i64 a0_0, .int .i64 a0_1, .slice A0_2 l0_2.length c0_2]] rfl (by (try simp only [List.map_toArray, List.map_cons, List.map_nil]); first | done | rfl) ?_; refine (laws_toPart2.calls k a0_0 a0_1 _ _ l0_2 ph pv pl _ (Kd.C_below HR0_2.out G.at_.1.1.1.1.1.1.1.1.1.1.1.1.1) Hc0_2.out F2.out).mono ?_; rintro e w1 ⟨v55_0, rfl, ho55_0, hb⟩; refine ⟨_, rfl, ?_⟩; obtain ⟨A55_0, c55_0, rfl, _, _⟩ := Kd.S_reads ho55_0; obtain ⟨loA55_0, hiA55_0, hOA55_0, hTA55_0, hSA55_0⟩ := newS G.at_.2 G.at_.1.1.1.1.1.1.1.1.1.1.1.1.1 hb ho55_0; have OA55_0 := aM hOA55_0; clear hOA55_0 ho55_0; have G1 := (((G.go hb).add (Gs.ownS hSA55_0)).add (Gs.top hTA55_0)); clear G hb hSA55_0 hTA55_0; have G := G1; clear G1) | ((with_reducible refine gate_callee (f := 32) rfl ?_); refine goesL_ (some 56) rfl rfl Try.func32 (by kernel_rfl) rfl #[.agg #[.int .i64 ph, .int .i64 pv, .slice A55_0 pl.length c55_0]] rfl (by (try simp only [List.map_toArray, List.map_cons, List.map_nil]); first | done | rfl) ?_; refine (impl_AlarmsIn2.calls k ph pv _ _ pl ao _ (Kd.S_reads' G.at_.1.2).2.2 ((Kd.S_reads' G.at_.1.2).1 ▸ (Kd.S_reads' G.at_.1.2).2.1) F4.out).mono ?_; rintro e w1 ⟨v56_0, rfl, ho56_0, hb⟩; refine ⟨_, rfl, ?_⟩; obtain ⟨A56_0, c56_0, rfl, _, _⟩ := Kd.S_reads ho56_0; obtain ⟨loA56_0, hiA56_0, hOA56_0, hTA56_0, hSA56_0⟩ := newS G.at_.2 G.at_.1.1.1.1.1.1.1.1.1.1.1.1.1.1.1 hb ho56_0; have OA56_0 := aM hOA56_0; clear hOA56_0 ho56_0; have G1 := (((G.go hb).add (Gs.ownS hSA56_0)).add (Gs.top hTA56_0)); clear G hb hSA56_0 hTA56_0; have G := G1; clear G1))
 (try clear zg1_0)
 (try clear zg1_1)
 (try clear zg1_2)
 go_upto_region 27 with (first | ((with_reducible refine gate_callee (f := 24) rfl ?_); refine goesL_ (some 59) rfl rfl Try.func24 (by kernel_rfl) rfl #[.slice A56_0 ao.length c56_0, .slice A18_0 ao.length c18_0] rfl (by (try simp only [List.map_toArray, List.map_cons, List.map_nil]); first | done | rfl) ?_; refine (laws_eqAlarmS.calls k _ _ ao _ _ ao true _ (Kd.S_reads' G.at_.1.2).2.2 ((Kd.S_reads' G.at_.1.2).1 ▸ (Kd.S_reads' G.at_.1.2).2.1) (Kd.S_reads' G.at_.1.1.1.1.1.1.1.1.1.1.1.2).2.2 ((Kd.S_reads' G.at_.1.1.1.1.1.1.1.1.1.1.1.2).1 ▸ (Kd.S_reads' G.at_.1.1.1.1.1.1.1.1.1.1.1.2).2.1) F5.out).mono ?_; rintro e w1 ⟨rfl, hb⟩; refine ⟨_, rfl, ?_⟩; have G1 := (G.go hb); clear G hb; have G := G1; clear G1))
 go_upto_region 28 with (fail)
 go_upto_region 29 with (first | ((with_reducible refine gate_callee (f := 28) rfl ?_); refine goesL_ (some 63) rfl rfl Try.func28 (by kernel_rfl) rfl #[.slice A22_0 am.length c22_0, .int .i64 1] rfl (by (try simp only [List.map_toArray, List.map_cons, List.map_nil]); first | done | rfl | (simp only [HLA20_0.out, HLA22_0.out]; rfl)) ?_; refine (laws_heldAlarmS.calls k _ _ am 1 e2 _ (Kd.S_reads' G.at_.1.1.1.1.1.2).2.2 ((Kd.S_reads' G.at_.1.1.1.1.1.2).1 ▸ (Kd.S_reads' G.at_.1.1.1.1.1.2).2.1) F9.out).mono ?_; rintro e w1 ⟨rfl, hb⟩; refine ⟨_, rfl, ?_⟩; have G1 := (G.go hb); clear G hb; have G := G1; clear G1))
 have hk2_ := K2.out
 go_upto_region 31 with (fail)
 have hk3_ := K3.out
 go_upto_region 33 with (fail)
 try go_wp2
 try go_wp2
 go_ret
 exact ⟨rfl, G.at_.1.1.1.1.1.1.1.1.1.1.1.1.1.1.1.1.1⟩
/-- What each call of the law gives, at rounds k. -/
def laws_FnExactAlarmsIn.Facts (k : Nat) (a0_0 : Int) (a0_1 : Int) (l0_2 : List S35) : Prop := (∃ (q1 : Int), (laws_szPart.f k a0_0 a0_1 l0_2 1048576 = some q1) ∧
  (decide (q1 < 0) = true)) ∨
  (∃ (q1 : Int) (ph : Int) (pv : Int) (pl : List (S39)) (ao : List (S26)) (e1 : Int) (pm : List (S39)) (e2 : Int) (am : List (S26)), (laws_szPart.f k a0_0 a0_1 l0_2 1048576 = some q1) ∧
  (laws_toPart.f k a0_0 a0_1 l0_2 = some (ph, pv, pl)) ∧
  (spec_AlarmsIn2.f k ph pv pl = some ao) ∧
  (impl_AlarmsIn2.f k ph pv pl = some ao) ∧
  (laws_eqAlarmS.f k ao ao = some true) ∧
  (laws_eqPart.f k ph pv pl ph pv pl = some true) ∧
  (laws_markPart.f k ph pv pl 1 = some (e1, pm)) ∧
  (laws_markAlarmS.f k ao 1 = some (e2, am)) ∧
  (laws_heldAlarmS.f k am 1 = some e2) ∧
  (decide (q1 < 0) = false) ∧
  (decide (e1 < 0) = false) ∧
  (decide (e2 < 0) = false) ∧
  ((e2 != e2) = false))
open Classical in
/-- What the law gives: true, where each call gives what the way wants. -/
noncomputable def laws_FnExactAlarmsIn.f (k : Nat) (a0_0 : Int) (a0_1 : Int) (l0_2 : List S35) : Option (Bool) := if laws_FnExactAlarmsIn.Facts k a0_0 a0_1 l0_2 then some true else none
theorem laws_FnExactAlarmsIn.f_of {k : Nat} {a0_0 : Int} {a0_1 : Int} {l0_2 : List S35} (h : laws_FnExactAlarmsIn.Facts k a0_0 a0_1 l0_2) : laws_FnExactAlarmsIn.f k a0_0 a0_1 l0_2 = some true := if_pos h
theorem laws_FnExactAlarmsIn.calls (k : Nat) (a0_0 : Int) (a0_1 : Int) (A0_2 : Option Addr) (c0_2 : Nat) (l0_2 : List S35) (r : Bool) (w : World) (hr0_2 : Kd.C k35 w A0_2 l0_2.length l0_2) (hc0_2 : l0_2.length ≤ c0_2) (hr_ : Aside0 (r = true)) (h : laws_FnExactAlarmsIn.f k a0_0 a0_1 l0_2 = some r) :
    Calls Try.prog 5 #[.agg #[.int .i64 a0_0, .int .i64 a0_1, .slice A0_2 l0_2.length c0_2]] w fun e w' => e = .returned (.bool r) ∧ Below w.heap.size w w' := by
 unfold laws_FnExactAlarmsIn.f at h
 by_cases hf : laws_FnExactAlarmsIn.Facts k a0_0 a0_1 l0_2
 · rw [if_pos hf] at h
   obtain rfl := Option.some.inj h
   rcases hf with hf | hf
   · obtain ⟨q1, h_0, h_1⟩ := hf
     exact laws_FnExactAlarmsIn.early1 k a0_0 a0_1 A0_2 c0_2 l0_2 w hr0_2 hc0_2 q1 ⟨h_0⟩ ⟨h_1⟩
   · obtain ⟨q1, ph, pv, pl, ao, e1, pm, e2, am, h_0, h_1, h_2, h_3, h_4, h_5, h_6, h_7, h_8, h_9, h_10, h_11, h_12⟩ := hf
     exact laws_FnExactAlarmsIn.way k a0_0 a0_1 A0_2 c0_2 l0_2 w hr0_2 hc0_2 q1 ph pv pl ao e1 pm e2 am ⟨h_0⟩ ⟨h_1⟩ ⟨h_2⟩ ⟨h_3⟩ ⟨h_4⟩ ⟨h_5⟩ ⟨h_6⟩ ⟨h_7⟩ ⟨h_8⟩ ⟨h_9⟩ ⟨h_10⟩ ⟨h_11⟩ ⟨h_12⟩
 · rw [if_neg hf] at h
   cases h
end Go.Proofs.Ytgindocfjoalhaa.PFnExactAlarmsIn
