/- What the Go functions that FnSets reaches compute, as Lean functions, and that the machine's calls do so; no conditions. -/
import Derived.Test.YtgindocfjoalhabProg
import Derived.Below
import Derived.Deep.Draws
import Derived.Deep.AppendLies
import Derived.Maps.AppendAt
import Derived.OwnWalk
import Derived.Laws.BytesArg
import Derived.Laws.MakeOwn
import Derived.Laws.OwnMore
import Derived.Deep.OwnRows
import Derived.Tactics
import Derived.Lib.ConvBytes
import Derived.Laws.Slices
import Derived.WalkKit
import Derived.KernelRfl
import Derived.RowKit3
import Derived.Deep.LoopGhost
import Derived.Deep.QuietTactic
import Derived.BigQuiet
import Derived.WideLaws
import Derived.Deep.DeepCutAuto
import Derived.Deep.CutBlock
import Derived.Deep.RegionHeld3
import Derived.Laws.Rows
import Derived.Lib.AppendStr
import Derived.ArgAppend
import Derived.Laws.IdiomCopy
import Derived.OrdersHeld
import Derived.Laws.BitsLemmas
import Derived.RowKit
import Derived.WalkLawsBesides
import Derived.Test.YtgindocfjoalhabWWords
import Derived.Test.YtgindocfjoalhabWLast
import Derived.Test.YtgindocfjoalhabWTab
import Derived.Test.YtgindocfjoalhabWFour
import Derived.Test.YtgindocfjoalhabWQPut
import Derived.Test.YtgindocfjoalhabWApart
import Derived.Test.YtgindocfjoalhabWArr
import Derived.Test.YtgindocfjoalhabWZeros
import Derived.Test.YtgindocfjoalhabWFoot
import Derived.Test.YtgindocfjoalhabWKept
import Derived.Test.YtgindocfjoalhabWShare
import Derived.Test.YtgindocfjoalhabWN
import Derived.Test.YtgindocfjoalhabWFootNe
import Derived.Test.YtgindocfjoalhabWAt
import Derived.Test.YtgindocfjoalhabWEqStruct
import Derived.Test.YtgindocfjoalhabWRepsOne
import Derived.Test.YtgindocfjoalhabWInv
import Derived.Test.YtgindocfjoalhabWInvWords
import Derived.Test.YtgindocfjoalhabWGuard
import Derived.Test.YtgindocfjoalhabWNEv
import Derived.Test.YtgindocfjoalhabWMore
namespace Go.Proofs.Ytgindocfjoalhab.PFnSets
open Go.RowKit Go.Proofs.YtgindocfjoalhabW.PrintWords Go.Proofs.YtgindocfjoalhabW.PrintLast Go.Proofs.YtgindocfjoalhabW.PrintMore
attribute [local go_sem] max2_int min2_int max_two min_two max_three min_three max_four min_four   -- for this text's walks alone
set_option linter.unusedVariables false
set_option linter.unusedSimpArgs false



def errW : Option Int → Value
  | none => .nilIface
  | some c => .iface 0 (.int .i64 c)
theorem errW_none : errW none = .nilIface := rfl
theorem errW_some (c : Int) : errW (some c) = .iface 0 (.int .i64 c) := rfl

theorem info9 : (Try.prog.info? 9).map (fun i => (i.zero, i.size, i.bytes)) = some (some (.string ⟨#[]⟩), 1, 16) := by kernel_rfl
theorem info86 : (Try.prog.info? 86).map (fun i => (i.zero, i.size, i.bytes)) = some (some (.agg #[(.string ⟨#[]⟩), (.string ⟨#[]⟩)]), 2, 32) := by kernel_rfl
abbrev aM := @Aside0.mk
abbrev aB1 := @blk_drewN
abbrev aB2 := @blk_drew
abbrev aB3 := @blk_alloc
abbrev aR1 := @Kd.R_alloc
abbrev aR2 := @Kd.R_drewN
abbrev aR3 := @Kd.R_drew
abbrev aW1 := @below_alloc
abbrev aW2 := @pw_below_drewN
abbrev aW3 := @below_drew1
/-- W is w, but for new blocks and draws. -/
class BX (w W : World) : Prop where
  out : Below w.heap.size w W
instance bx0 (w : World) : BX w w := ⟨Below.refl _ _⟩
instance bx1 (w W : World) (o : Obj) [BX w W] : BX w (W.alloc o) := ⟨below_alloc BX.out o⟩
instance bx2 (w W : World) [BX w W] : BX w W.drew := ⟨below_drew BX.out⟩
instance bx3 (w W : World) (n : Nat) [BX w W] : BX w (W.drewN n) := ⟨pw_below_drewN BX.out n⟩
theorem aB {w W : World} {g : Nat} {o : Obj} (h : Aside0 (w.heap[g]? = some o)) [BX w W] : W.heap[g]? = some o := blk_below h.out BX.out
theorem aR {α : Type} {d : Kd α} {e : Nat} {w W : World} {base : Nat} {ok : Nat → Prop} {v : Value} {xs : List α} (h : Aside0 (d.R e w base ok v xs)) [BX w W] : d.R e W base ok v xs := Kd.R_below h.out BX.out
theorem bb {w W w1 : World} {g : Nat} {o : Obj} (h : Aside0 (w.heap[g]? = some o)) [BX w W] (hb : Below W.heap.size W w1) : Aside0 (w1.heap[g]? = some o) := ⟨blk_below (blk_below h.out BX.out) hb⟩
theorem rb {α : Type} {d : Kd α} {e : Nat} {w W w1 : World} {base : Nat} {ok : Nat → Prop} {v : Value} {xs : List α} (h : Aside0 (d.R e w base ok v xs)) [BX w W] (hb : Below W.heap.size W w1) : Aside0 (d.R e w1 base ok v xs) := ⟨Kd.R_below (Kd.R_below h.out BX.out) hb⟩
theorem cz1_0 {w : World} {g : Nat} {a0 : Value} {t : TypeId} (h : Aside0 (w.heap[g]? = some (.cells #[a0] t (0, 0)))) : w.cell? ⟨g, 0, none⟩ = some a0 := (blk_cell h.out 0).trans rfl
theorem cz2_0 {w : World} {g : Nat} {a0 a1 : Value} {t : TypeId} (h : Aside0 (w.heap[g]? = some (.cells #[a0, a1] t (0, 0)))) : w.cell? ⟨g, 0, none⟩ = some a0 := (blk_cell h.out 0).trans rfl
theorem cz2_1 {w : World} {g : Nat} {a0 a1 : Value} {t : TypeId} (h : Aside0 (w.heap[g]? = some (.cells #[a0, a1] t (0, 0)))) : w.cell? ⟨g, 1, none⟩ = some a1 := (blk_cell h.out 1).trans rfl
theorem cz3_0 {w : World} {g : Nat} {a0 a1 a2 : Value} {t : TypeId} (h : Aside0 (w.heap[g]? = some (.cells #[a0, a1, a2] t (0, 0)))) : w.cell? ⟨g, 0, none⟩ = some a0 := (blk_cell h.out 0).trans rfl
theorem cz3_1 {w : World} {g : Nat} {a0 a1 a2 : Value} {t : TypeId} (h : Aside0 (w.heap[g]? = some (.cells #[a0, a1, a2] t (0, 0)))) : w.cell? ⟨g, 1, none⟩ = some a1 := (blk_cell h.out 1).trans rfl
theorem cz3_2 {w : World} {g : Nat} {a0 a1 a2 : Value} {t : TypeId} (h : Aside0 (w.heap[g]? = some (.cells #[a0, a1, a2] t (0, 0)))) : w.cell? ⟨g, 2, none⟩ = some a2 := (blk_cell h.out 2).trans rfl
theorem cz4_0 {w : World} {g : Nat} {a0 a1 a2 a3 : Value} {t : TypeId} (h : Aside0 (w.heap[g]? = some (.cells #[a0, a1, a2, a3] t (0, 0)))) : w.cell? ⟨g, 0, none⟩ = some a0 := (blk_cell h.out 0).trans rfl
theorem cz4_1 {w : World} {g : Nat} {a0 a1 a2 a3 : Value} {t : TypeId} (h : Aside0 (w.heap[g]? = some (.cells #[a0, a1, a2, a3] t (0, 0)))) : w.cell? ⟨g, 1, none⟩ = some a1 := (blk_cell h.out 1).trans rfl
theorem cz4_2 {w : World} {g : Nat} {a0 a1 a2 a3 : Value} {t : TypeId} (h : Aside0 (w.heap[g]? = some (.cells #[a0, a1, a2, a3] t (0, 0)))) : w.cell? ⟨g, 2, none⟩ = some a2 := (blk_cell h.out 2).trans rfl
theorem cz4_3 {w : World} {g : Nat} {a0 a1 a2 a3 : Value} {t : TypeId} (h : Aside0 (w.heap[g]? = some (.cells #[a0, a1, a2, a3] t (0, 0)))) : w.cell? ⟨g, 3, none⟩ = some a3 := (blk_cell h.out 3).trans rfl
-- the values' own types
/-! #### struct type 86 -/
structure S86 where
  f0 : ByteArray
  f1 : ByteArray
def z86 : S86 := ⟨(⟨#[]⟩ : ByteArray), (⟨#[]⟩ : ByteArray)⟩
def k86 : Kd S86 := Kd.iso (Kd.pair Kd.string Kd.string) (fun x : S86 => (x.f0, x.f1))
theorem k86_open {w : World} {x : S86} {cs : List Value} (h : k86.K w x cs) : cs = [.string x.f0, .string x.f1] := by
  obtain ⟨_, _, rfl, rfl, rfl⟩ := h
  exact rfl
theorem k86_openM {w : World} {base : Nat} {ok : Nat → Prop} {x : S86} {cs : List Value} (h : k86.M w base ok x cs) : cs = [.string x.f0, .string x.f1] := by
  obtain ⟨_, _, rfl, rfl, rfl⟩ := h
  exact rfl
theorem k86_mk (w : World) (x : S86)  : k86.K w x [.string x.f0, .string x.f1] := ⟨[.string x.f0], [.string x.f1], rfl, rfl, rfl⟩
theorem k86_mkM (w : World) (base : Nat) (ok : Nat → Prop) (x : S86)  : k86.M w base ok x [.string x.f0, .string x.f1] := ⟨[.string x.f0], [.string x.f1], rfl, rfl, rfl⟩
def rd_T86 (xs : List S86) (i : Int) : S86 := xs.getD i.toNat z86
theorem at_T86 {w : World} {A : Option Addr} {n : Nat} {xs : List S86} (h : Kd.C k86 w A n xs) (i : Int) (h0 : 0 ≤ i) (h1 : i < n) : ∃ ad , A = some ad ∧ w.cell? (ad.add (i.toNat * 2)) = some (.string (rd_T86 xs i).f0) ∧ w.cell? ⟨(ad.add (i.toNat * 2)).block, (ad.add (i.toNat * 2)).off + 1, none⟩ = some (.string (rd_T86 xs i).f1) := by
  obtain ⟨ad, c, e, _, hK, hc0⟩ := Kd.C_get h z86 i h0 h1
  have hc : ∀ j u, c[j]? = some u → w.cell? (ad.add (i.toNat * 2 + j)) = some u := hc0
  obtain rfl := k86_open hK
  exact ⟨ad, e, hc 0 _ rfl, by rw [← add_field _ _ 1 (by omega)]; exact hc 1 _ rfl⟩

/-- Which operations have come up: the bits of m. -/
def bz (n m : Nat) : Array Bool := ((List.range n).map (Nat.testBit m)).toArray
section
open Go.Proofs.YtgindocfjoalhabW.PrintLast
variable {P : Program} {ops : Array Oper} {Q : Exit → Act → World → Prop} {S : World → Prop} {ds : List Nat} {n m fuel : Nat} {a : Act} {w : World} {T : Bool × List (List Nat × List Nat)} {B : List Nat}
theorem pu {oi : Oper} (i : Nat) (N : Option Tmp) (m' : Nat) (v : Value) (a' : Act) (HT : Aside0 (rtab .any ops = T)) (hi : ops[i]? = some oi) (hN : oi.dst = N) (hc : anyT T (bz n m).toList (bz n m').toList i = true) (hQ : ∀ c a w, Q (.panic c) (a.put oi.dst v) w → Q (.panic c) a w)
  (hw : Region.wanted oi (yielded ops a.tmps) = true) (hy : ∀ w', (execOp a.eval oi).run P w' = .ok (.value v) w') (ha : a.put N v = a') (h : wpAnyLast P .any ops Q S ds fuel (bz n m') a' w) : wpAnyLast P .any ops Q S ds (fuel + 1) (bz n m) a w :=
  pure_ (bz n m') hi hN (any_of HT.out hc) hQ (Or.inl ⟨hw, hy⟩) ha h
theorem po {oi : Oper} (i : Nat) (N : Option Tmp) (m' : Nat) (a' : Act) (HT : Aside0 (rtab .any ops = T)) (hi : ops[i]? = some oi) (hN : oi.dst = N) (hc : anyT T (bz n m).toList (bz n m').toList i = true) (hQ : ∀ c a w, Q (.panic c) (a.put oi.dst undef) w → Q (.panic c) a w)
  (hw : Region.wanted oi (yielded ops a.tmps) = false) (ha : a.put N undef = a') (h : wpAnyLast P .any ops Q S ds fuel (bz n m') a' w) : wpAnyLast P .any ops Q S ds (fuel + 1) (bz n m) a w :=
  pure_ (bz n m') hi hN (any_of HT.out hc) hQ (Or.inr ⟨hw, rfl⟩) ha h
theorem tk {oi : Oper} (i : Nat) (N : Option Tmp) (m' : Nat) (v : Value) (a' : Act) (HT : Aside0 (rtab .any ops = T)) (HW : Aside0 (waitsOk T.2 B = true)) (hi : ops[i]? = some oi) (hN : oi.dst = N) (hc : takeW T B ds (bz n m).toList (bz n m').toList i = true) (hQ : ∀ c a w, Q (.panic c) (a.put oi.dst v) w → Q (.panic c) a w)
  (hS : S w) (hw : Region.wanted oi (yielded ops a.tmps) = true) (hy : ∀ w', S w' → (execOp a.eval oi).run P w' = .ok (.value v) w') (ha : a.put N v = a') (h : wpAnyLast P .any ops Q S ds fuel (bz n m') a' w) : wpAnyLast P .any ops Q S ds (fuel + 1) (bz n m) a w :=
  take_ (bz n m') hi hN (take_ofW HT.out HW.out hc) hQ (Or.inl ⟨hw, hy⟩) hS ha h
end

end Go.Proofs.Ytgindocfjoalhab.PFnSets
