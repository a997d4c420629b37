/- The row of FnExactSweepIn: for every input that reads as data of its types the law returns true, and each argument reads as it did; no conditions. -/
import Derived.Test.YtgindocfjoalhaaRows
import Derived.Test.YtgindocfjoalhaaPFnExactSweepInx9
import Derived.Test.YtgindocfjoalhaaPureFnExactSweepIn
import Derived.Test.YtgindocfjoalhaaOpen
import Derived.WalkKit
import Derived.ProofKit
import Derived.OpenShut
import Derived.ShutString
import Derived.ChangeOld
import Derived.Below
import Derived.SizedLaws
import Derived.Carry
namespace Go.Proofs.Ytgindocfjoalhaa.fnExactSweepIn
open Go.ChangeShapes Go.WideShapes Go.ChangeAt Go.RowKit Go.Proofs.Ytgindocfjoalhaa.PFnExactSweepIn Go.Proofs.YtgindocfjoalhaaW.PrintWords Go.Proofs.Ytgindocfjoalhaa.Opened
open Go.ChangeMaps (open_string shut_string)
set_option linter.unusedVariables false
theorem own : ownKnob Try.prog.godebug = none := by kernel_rfl
theorem laidOut : laidOutB Try.prog = true := by kernel_rfl
theorem p113 : Opens Try.prog 113 (Kd.pair Kd.string Kd.string) (fun p => p.1.size ≤ 9223372036854775807 ∧ p.2.size ≤ 9223372036854775807) := opens_struct2 Try.underlying113 (by kernel_rfl) rfl rfl  (by kernel_rfl) (by kernel_rfl)  (opens_string Try.underlying9) (opens_string Try.underlying9)
abbrev W113 (x : S113) : Prop := x.f0.size ≤ 9223372036854775807 ∧ x.f1.size ≤ 9223372036854775807
theorem o113 : Opens Try.prog 113 k113 W113 := opens_iso (fun x : S113 => (x.f0, x.f1)) (fun p => ⟨p.1, p.2⟩) (fun _ => rfl) p113
theorem p62 : Opens Try.prog 62 (Kd.pair (Kd.slice 113 k113) (Kd.pair (Kd.int .i64) (Kd.pair (Kd.int .i64) Kd.string))) (fun p => (p.1.length ≤ 9223372036854775807 ∧ ∀ b ∈ p.1, W113 b) ∧ (Lit.int .i64 p.2.1).wf = true ∧ (Lit.int .i64 p.2.2.1).wf = true ∧ p.2.2.2.size ≤ 9223372036854775807) := opens_struct4 Try.underlying62 (by kernel_rfl) rfl rfl rfl rfl  (by kernel_rfl) (by kernel_rfl) (by kernel_rfl) (by kernel_rfl)  (opens_slice Try.underlying60 (by kernel_rfl) o113) (opens_int (k := .i64) Try.underlying3) (opens_int (k := .i64) Try.underlying3) (opens_string Try.underlying9)
abbrev W62 (x : S62) : Prop := (x.f0.length ≤ 9223372036854775807 ∧ ∀ b ∈ x.f0, W113 b) ∧ (Lit.int .i64 x.f1).wf = true ∧ (Lit.int .i64 x.f2).wf = true ∧ x.f3.size ≤ 9223372036854775807
theorem o62 : Opens Try.prog 62 k62 W62 := opens_iso (fun x : S62 => (x.f0, x.f1, x.f2, x.f3)) (fun p => ⟨p.1, p.2.1, p.2.2.1, p.2.2.2⟩) (fun _ => rfl) p62
theorem p35 : Opens Try.prog 35 (Kd.pair (Kd.int .i64) (Kd.slice 62 k62)) (fun p => (Lit.int .i64 p.1).wf = true ∧ (p.2.length ≤ 9223372036854775807 ∧ ∀ b ∈ p.2, W62 b)) := opens_struct2 Try.underlying35 (by kernel_rfl) rfl rfl  (by kernel_rfl) (by kernel_rfl)  (opens_int (k := .i64) Try.underlying3) (opens_slice Try.underlying33 (by kernel_rfl) o62)
abbrev W35 (x : S35) : Prop := (Lit.int .i64 x.f0).wf = true ∧ (x.f1.length ≤ 9223372036854775807 ∧ ∀ b ∈ x.f1, W62 b)
theorem o35 : Opens Try.prog 35 k35 W35 := opens_iso (fun x : S35 => (x.f0, x.f1)) (fun p => ⟨p.1, p.2⟩) (fun _ => rfl) p35
theorem p50 : Opens Try.prog 50 (Kd.pair (Kd.int .i64) (Kd.pair (Kd.int .i64) (Kd.slice 35 k35))) (fun p => (Lit.int .i64 p.1).wf = true ∧ (Lit.int .i64 p.2.1).wf = true ∧ (p.2.2.length ≤ 9223372036854775807 ∧ ∀ b ∈ p.2.2, W35 b)) := opens_struct3 Try.underlying50 (by kernel_rfl) rfl rfl rfl  (by kernel_rfl) (by kernel_rfl) (by kernel_rfl)  (opens_int (k := .i64) Try.underlying3) (opens_int (k := .i64) Try.underlying3) (opens_slice Try.underlying48 (by kernel_rfl) o35)
set_option maxRecDepth 100000 in
theorem lifted (os : Os) (started : os.Started) (H : Type) (enc : TypeId × Value → H) :
    ReturnsInHanded {} Try.checked os 7 .any (Rows.fnExactSweepInSpec.pre6 enc Try.prog Try.f7 Rows.fnExactSweepInRow.domain false) (Rows.fnExactSweepInSpec.post enc Try.prog Try.f7 false true false false) := by
  refine returnsInHanded_of_change_sized (C := Try.checked) own started (by kernel_rfl) Try.func7
    (ChangeSpec.witness6 (enc := enc) (C := Try.checked) false ⟨#[], #[.agg #[.int .i64 0, .int .i64 0, .slice none 0 0], .int .i64 0], []⟩ 8 (by kernel_rfl) (by kernel_rfl) (by kernel_rfl) (by kernel_rfl)) ?_
  intro W base args ds gs before hval0 hW hcnd hsz0 _
  have hval : ∀ (j : Nat) t v, Try.f7.params[j]? = some t → args[j]? = some v → Value.okWide Try.prog W .any base t v := hval0
  have hW' := hW
  obtain ⟨p, q, hA0, hV, rfl, hfz, hnd⟩ := hW
  have hA : DataW.TrodAll enc Try.prog W 0 (fun _ => true) true Try.f7.params.toList args.toList ds p := hA0
  rw [Try.params7] at hA hval
  obtain ⟨v0, vs0, d0, ds0, p0, q0, hargs, rfl, rfl, h0, r0⟩ := trodAll_cons hA
  obtain ⟨v1, vs1, d1, ds1, p1, q1, rfl, rfl, rfl, h1, r1⟩ := trodAll_cons r0
  obtain ⟨rfl, rfl, rfl⟩ := trodAll_nil r1
  obtain rfl : args = #[v0, v1] := by cases args; simp_all
  obtain ⟨rfl, rfl⟩ := trodVars_none hV
  have k0 := h0
  have lt0 : ∀ x ∈ p0, x.block < W.heap.size := by obtain ⟨m, hm⟩ := k0; exact DataW.trod_lt m _ _ _ hm
  obtain ⟨cs0, x0, rfl, hk0, w0⟩ := arg_struct Try.underlying50 p50 (hval 0 50 v0 rfl rfl) h0
  obtain ⟨a0_0, a0_1, l0_2⟩ := x0
  obtain ⟨_, _, rfl, rfl, ⟨_, _, rfl, rfl, ⟨A0_2, c0_2, rfl, hc0_2, hr0_2⟩⟩⟩ := hk0
  obtain ⟨a1, rfl, rfl, rfl, w1⟩ := open_int Try.underlying3 (hval 1 3 v1 rfl rfl) h1
  clear hA0 hval0
  obtain ⟨k, hf⟩ := Pure.FnExactSweepIn a0_0 a0_1 l0_2 a1 w0 w1
  refine (laws_FnExactSweepIn.calls k a0_0 a0_1 _ _ l0_2 a1 true W hr0_2 hc0_2 ⟨rfl⟩ hf).mono fun e W' ⟨he, bel0⟩ => ?_
  have bel : Below W.heap.size W W' := bel0
  subst he
  exact ⟨_, rfl, _, _, _, [], _, [], hW', trodAll_mk1 (shut_bool Try.underlying4 _), (trodAll_cons_mk (Below.trod laidOut (by kernel_rfl) (of_decide_eq_true (by kernel_rfl)) k0 bel lt0) (trodAll_cons_mk (shut_int Try.underlying3 w1) trodAll_mk0)), rfl, bel.frame _, fun h => by cases h⟩
theorem over : Rows.fnExactSweepInRow.holds Try.pinned (OpenSpec.ofChange Rows.fnExactSweepInSpec) :=
  OpenClaim.holds_of_wide 7 Try.f7 rfl rfl rfl rfl rfl rfl rfl ⟨rfl, rfl, rfl, rfl, rfl⟩ rfl rfl rfl rfl rfl (by kernel_rfl) Try.func7 (by kernel_rfl)
    (of_decide_eq_true (by kernel_rfl)) (by unfold Func.isWrapper; first | (rw [if_pos (by decide +kernel)]; kernel_rfl) | (rw [if_neg (by decide +kernel)]; exact ⟨rfl, rfl⟩))
    (fun os started H enc _ => lifted os started H enc)
theorem proved : Rows.FnExactSweepInSaid := over
#print axioms proved
end Go.Proofs.Ytgindocfjoalhaa.fnExactSweepIn
namespace Go.Proofs.Ytgindocfjoalhaa
/-- The row, under a short name, for the claim. -/
theorem fnExactSweepIn_holds : Rows.FnExactSweepInSaid := fnExactSweepIn.proved
end Go.Proofs.Ytgindocfjoalhaa
