/- Whatever reads as data of a Go type is held as a Lean value of the print's kind: strings, whole numbers, slices, structs of one-cell fields; and each size is a Go size. -/
import Derived.Test.YtgindocfjoalhabWMore
import Derived.ProofKit
import Derived.OpenShut
import Derived.Carry
import Derived.Lib.SmallJoins
import Derived.Deep.Slices
set_option linter.unusedVariables false
set_option linter.unusedSimpArgs false
namespace Go.Proofs.Ytgindocfjoalhab.Opened
open Go.ChangeShapes Go.WideShapes Go.ChangeAt Go.RowKit Go.Deep Go.Proofs.YtgindocfjoalhabW.PrintWords

/-- Cells that read by type t hold a value of the kind k, of which Wf is so. -/
def Opens {α : Type} (P : Program) (t : TypeId) (k : Kd α) (Wf : α → Prop) : Prop :=
  ∀ (H : Type) (enc : TypeId × Value → H) (w : World) (base : Nat) (spare : Nat → Bool) (held : Bool) (fuel : Nat) (cs : List Value) (x : DataW H × List MemPlace),
    DataW.trod enc P w base spare held fuel t cs = some x → ∃ a : α, k.K w a cs ∧ Wf a

section
variable {P : Program}
theorem opens_string {t : TypeId} (ht : P.underlying t = some .string) : Opens P t Kd.string (fun s => s.size ≤ 9223372036854775807) := by
  intro H enc w base spare held fuel cs x h
  obtain ⟨s, rfl, _, hs⟩ := DataW.trod_string ht h
  exact ⟨s, rfl, hs⟩
theorem opens_int {t : TypeId} {k : IntKind} (ht : P.underlying t = some (.int k)) : Opens P t (Kd.int k) (fun n => (Lit.int k n).wf = true) := by
  intro H enc w base spare held fuel cs x h
  obtain ⟨n, rfl, _, hn⟩ := DataW.trod_int ht h
  exact ⟨n, rfl, hn⟩
theorem opens_slice {α : Type} {t e : TypeId} {k : Kd α} {Wf : α → Prop} (ht : P.underlying t = some (.slice e)) (hc : P.cellsOf e = k.sz) (he : Opens P e k Wf) :
    Opens P t (Kd.slice e k) (fun l => l.length ≤ 9223372036854775807 ∧ ∀ a ∈ l, Wf a) := by
  intro H enc w base spare held fuel cs x h
  rcases open_slice ht h with ⟨rfl, _⟩ | ⟨a, len, cap, m, n, D, Pl, rfl, hb, hl, hm, hmm, rfl, hx⟩
  · exact ⟨[], ⟨none, 0, rfl, Nat.le_refl _, Kd.C_nil k w⟩, by simp, fun a ha => by simp at ha⟩
  have hlm : len ≤ m := by rw [hmm]; split <;> omega
  have each : ∀ i, i < len → ∃ q : α × List Value, q.2.length = k.sz ∧ k.K w q.1 q.2 ∧ Wf q.1 ∧ ∀ j u, q.2[j]? = some u → w.cell? (a.add (i * k.sz + j)) = some u := by
    intro i hi
    obtain ⟨cs', h1, h2⟩ := hx i (by omega)
    obtain ⟨b, hk, hwf⟩ := he H enc w base spare held n cs' _ h2
    rw [hc] at h1
    obtain ⟨_, hlen, hcell⟩ := World.cells?_some h1
    refine ⟨(b, cs'), hlen, hk, hwf, fun j u hj => ?_⟩
    have hj' : j < k.sz := by
      have h9 := (List.getElem?_eq_some_iff.1 hj).1
      exact hlen ▸ h9
    have e0 := hcell j hj'
    rw [Deep.add_add] at e0
    rw [e0]
    exact hj
  have hm' : len ≤ 9223372036854775807 := Nat.le_trans hl hm
  rcases Nat.eq_zero_or_pos len with h0 | hpos
  · subst h0
    exact ⟨[], ⟨some a, cap, rfl, Nat.zero_le _, rfl, by simp, fun h => absurd h (Nat.lt_irrefl 0)⟩, by simp, fun a ha => by simp at ha⟩
  obtain ⟨q0, _⟩ := each 0 hpos
  haveI : Inhabited α := ⟨q0.1⟩
  obtain ⟨q, hq⟩ := choose_lt each
  have hll : ((List.range len).map fun i => (q i).1).length = len := by simp
  refine ⟨(List.range len).map fun i => (q i).1, ⟨some a, cap, by rw [hll], by rw [hll]; exact hl, ?_⟩, by rw [hll]; exact hm', ?_⟩
  · rw [hll]
    refine ⟨hll, hm', fun _ => ⟨a, rfl, fun j p hj => ?_⟩⟩
    have hj1 : j < len := by
      have := (List.getElem?_eq_some_iff.1 hj).1
      omega
    have hp : (q j).1 = p := by
      rw [List.getElem?_map, List.getElem?_range hj1] at hj
      simpa using hj
    subst hp
    exact ⟨(q j).2, (hq j hj1).1, (hq j hj1).2.1, (hq j hj1).2.2.2⟩
  · intro b hb'
    obtain ⟨i, hi, rfl⟩ := List.mem_map.1 hb'
    exact (hq i (List.mem_range.1 hi)).2.2.1
theorem opens_iso {α β : Type} {t : TypeId} {k : Kd α} {Wf : α → Prop} (f : β → α) (g : α → β) (hfg : ∀ a, f (g a) = a) (h : Opens P t k Wf) : Opens P t (Kd.iso k f) (fun b => Wf (f b)) := by
  intro H enc w base spare held fuel cs x hx
  obtain ⟨a, h1, h2⟩ := h H enc w base spare held fuel cs x hx
  exact ⟨g a, by show k.K w (f (g a)) cs; rw [hfg]; exact h1, by show Wf (f (g a)); rw [hfg]; exact h2⟩
/-- A struct of two fields of one cell each. -/
theorem opens_struct2 {α β : Type} {t : TypeId} {f0 f1 : Field} {a : Kd α} {b : Kd β} {Wa : α → Prop} {Wb : β → Prop} (ht : P.underlying t = some (.struct #[f0, f1])) (hC : P.cellsOf t = 2)
    (o0 : f0.offset = 0) (o1 : f1.offset = 1) (c0 : P.cellsOf f0.type = 1) (c1 : P.cellsOf f1.type = 1) (h0 : Opens P f0.type a Wa) (h1 : Opens P f1.type b Wb) :
    Opens P t (Kd.pair a b) (fun x => Wa x.1 ∧ Wb x.2) := by
  intro H enc w base spare held fuel cs x h
  obtain ⟨xs, n, rfl, rfl, hlen, hxl, hf⟩ := DataW.trod_struct ht h
  rw [hC] at hlen
  match xs, hxl, cs, hlen with
  | [y0, y1], _, [v0, v1], _ =>
    have g0 := hf 0 f0 rfl
    have g1 := hf 1 f1 rfl
    simp [o0, o1, c0, c1] at g0 g1
    obtain ⟨z0, k0, w0⟩ := h0 H enc w base spare held n _ _ g0
    obtain ⟨z1, k1, w1⟩ := h1 H enc w base spare held n _ _ g1
    exact ⟨(z0, z1), ⟨[v0], [v1], rfl, k0, k1⟩, w0, w1⟩
theorem opens_struct3 {α β γ : Type} {t : TypeId} {f0 f1 f2 : Field} {a : Kd α} {b : Kd β} {c : Kd γ} {Wa : α → Prop} {Wb : β → Prop} {Wc : γ → Prop} (ht : P.underlying t = some (.struct #[f0, f1, f2])) (hC : P.cellsOf t = 3)
    (o0 : f0.offset = 0) (o1 : f1.offset = 1) (o2 : f2.offset = 2) (c0 : P.cellsOf f0.type = 1) (c1 : P.cellsOf f1.type = 1) (c2 : P.cellsOf f2.type = 1) (h0 : Opens P f0.type a Wa) (h1 : Opens P f1.type b Wb) (h2 : Opens P f2.type c Wc) :
    Opens P t (Kd.pair a (Kd.pair b c)) (fun x => Wa x.1 ∧ Wb x.2.1 ∧ Wc x.2.2) := by
  intro H enc w base spare held fuel cs x h
  obtain ⟨xs, n, rfl, rfl, hlen, hxl, hf⟩ := DataW.trod_struct ht h
  rw [hC] at hlen
  match xs, hxl, cs, hlen with
  | [y0, y1, y2], _, [v0, v1, v2], _ =>
    have g0 := hf 0 f0 rfl
    have g1 := hf 1 f1 rfl
    have g2 := hf 2 f2 rfl
    simp [o0, o1, o2, c0, c1, c2] at g0 g1 g2
    obtain ⟨z0, k0, w0⟩ := h0 H enc w base spare held n _ _ g0
    obtain ⟨z1, k1, w1⟩ := h1 H enc w base spare held n _ _ g1
    obtain ⟨z2, k2, w2⟩ := h2 H enc w base spare held n _ _ g2
    exact ⟨(z0, z1, z2), ⟨[v0], [v1, v2], rfl, k0, ⟨[v1], [v2], rfl, k1, k2⟩⟩, w0, w1, w2⟩
theorem opens_struct4 {α β γ δ : Type} {t : TypeId} {f0 f1 f2 f3 : Field} {a : Kd α} {b : Kd β} {c : Kd γ} {d : Kd δ} {Wa : α → Prop} {Wb : β → Prop} {Wc : γ → Prop} {Wd : δ → Prop} (ht : P.underlying t = some (.struct #[f0, f1, f2, f3])) (hC : P.cellsOf t = 4)
    (o0 : f0.offset = 0) (o1 : f1.offset = 1) (o2 : f2.offset = 2) (o3 : f3.offset = 3) (c0 : P.cellsOf f0.type = 1) (c1 : P.cellsOf f1.type = 1) (c2 : P.cellsOf f2.type = 1) (c3 : P.cellsOf f3.type = 1)
    (h0 : Opens P f0.type a Wa) (h1 : Opens P f1.type b Wb) (h2 : Opens P f2.type c Wc) (h3 : Opens P f3.type d Wd) :
    Opens P t (Kd.pair a (Kd.pair b (Kd.pair c d))) (fun x => Wa x.1 ∧ Wb x.2.1 ∧ Wc x.2.2.1 ∧ Wd x.2.2.2) := by
  intro H enc w base spare held fuel cs x h
  obtain ⟨xs, n, rfl, rfl, hlen, hxl, hf⟩ := DataW.trod_struct ht h
  rw [hC] at hlen
  match xs, hxl, cs, hlen with
  | [y0, y1, y2, y3], _, [v0, v1, v2, v3], _ =>
    have g0 := hf 0 f0 rfl
    have g1 := hf 1 f1 rfl
    have g2 := hf 2 f2 rfl
    have g3 := hf 3 f3 rfl
    simp [o0, o1, o2, o3, c0, c1, c2, c3] at g0 g1 g2 g3
    obtain ⟨z0, k0, w0⟩ := h0 H enc w base spare held n _ _ g0
    obtain ⟨z1, k1, w1⟩ := h1 H enc w base spare held n _ _ g1
    obtain ⟨z2, k2, w2⟩ := h2 H enc w base spare held n _ _ g2
    obtain ⟨z3, k3, w3⟩ := h3 H enc w base spare held n _ _ g3
    exact ⟨(z0, z1, z2, z3), ⟨[v0], [v1, v2, v3], rfl, k0, ⟨[v1], [v2, v3], rfl, k1, ⟨[v2], [v3], rfl, k2, k3⟩⟩⟩, w0, w1, w2, w3⟩

/-- An argument: a slice. -/
theorem arg_slice {α : Type} {H : Type} {enc : TypeId × Value → H} {w : World} {base b0 : Nat} {spare : Nat → Bool} {held : Bool} {r : Reach} {t e : TypeId} {k : Kd α} {Wf : List α → Prop} {v : Value} {d : DataW H} {p : List MemPlace}
    (ht : P.underlying t = some (.slice e)) (ho : Opens P t (Kd.slice e k) Wf) (hv : Value.okWide P w r b0 t v) (h : DataW.Trod enc P w base spare held t v d p) :
    ∃ A c l, v = .slice A (List.length l) c ∧ l.length ≤ c ∧ k.C w A l.length l ∧ Wf l := by
  obtain ⟨a, len, cap, rfl⟩ := okWide_slice ht hv
  obtain ⟨fuel, hf⟩ := h
  obtain ⟨l, ⟨A, c, e1, e2, e3⟩, hw⟩ := ho H enc w base spare held fuel _ _ hf
  simp [Value.cells] at e1
  obtain ⟨rfl, rfl, rfl⟩ := e1
  exact ⟨a, cap, l, rfl, e2, e3, hw⟩
/-- An argument: a struct. -/
theorem arg_struct {α : Type} {H : Type} {enc : TypeId × Value → H} {w : World} {base b0 : Nat} {spare : Nat → Bool} {held : Bool} {r : Reach} {t : TypeId} {fs : Array Field} {k : Kd α} {Wf : α → Prop} {v : Value} {d : DataW H} {p : List MemPlace}
    (ht : P.underlying t = some (.struct fs)) (ho : Opens P t k Wf) (hv : Value.okWide P w r b0 t v) (h : DataW.Trod enc P w base spare held t v d p) :
    ∃ cs x, v = .agg (List.toArray cs) ∧ k.K w x cs ∧ Wf x := by
  obtain ⟨cs, rfl, hsz⟩ := okWide_struct ht hv
  obtain ⟨fuel, hf⟩ := h
  obtain ⟨x, hk, hw⟩ := ho H enc w base spare held fuel _ _ hf
  exact ⟨cs.toList, x, by simp, by simpa [Value.cells] using hk, hw⟩
end
end Go.Proofs.Ytgindocfjoalhab.Opened
