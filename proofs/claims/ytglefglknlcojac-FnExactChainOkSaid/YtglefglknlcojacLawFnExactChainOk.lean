/- The row of FnExactChainOk: for every input that reads as data of its types the law returns true, and each argument reads as it did; no conditions. -/
import Derived.Test.YtglefglknlcojacRows
import Derived.Test.YtglefglknlcojacPFnExactChainOkx12
import Derived.Test.YtglefglknlcojacPureFnExactChainOk
import Derived.Test.YtglefglknlcojacOpen
import Derived.WalkKit
import Derived.ProofKit
import Derived.OpenShut
import Derived.ShutString
import Derived.ChangeOld
import Derived.Below
import Derived.SizedLaws
import Derived.Carry
namespace Go.Proofs.Ytglefglknlcojac.fnExactChainOk
open Go.ChangeShapes Go.WideShapes Go.ChangeAt Go.RowKit Go.Proofs.Ytglefglknlcojac.PFnExactChainOk Go.Proofs.YtglefglknlcojacW.PrintWords Go.Proofs.Ytglefglknlcojac.Opened
open Go.ChangeMaps (open_string shut_string)
set_option linter.unusedVariables false
theorem own : ownKnob Try.prog.godebug = none := by kernel_rfl
theorem laidOut : laidOutB Try.prog = true := by kernel_rfl
theorem p143 : Opens Try.prog 143 (Kd.pair Kd.string Kd.string) (fun p => p.1.size ≤ 9223372036854775807 ∧ p.2.size ≤ 9223372036854775807) := opens_struct2 Try.underlying143 (by kernel_rfl) rfl rfl  (by kernel_rfl) (by kernel_rfl)  (opens_string Try.underlying9) (opens_string Try.underlying9)
abbrev W143 (x : S143) : Prop := x.f0.size ≤ 9223372036854775807 ∧ x.f1.size ≤ 9223372036854775807
theorem o143 : Opens Try.prog 143 k143 W143 := opens_iso (fun x : S143 => (x.f0, x.f1)) (fun p => ⟨p.1, p.2⟩) (fun _ => rfl) p143
theorem p82 : Opens Try.prog 82 (Kd.pair (Kd.slice 143 k143) (Kd.pair (Kd.int .i64) (Kd.pair (Kd.int .i64) Kd.string))) (fun p => (p.1.length ≤ 9223372036854775807 ∧ ∀ b ∈ p.1, W143 b) ∧ (Lit.int .i64 p.2.1).wf = true ∧ (Lit.int .i64 p.2.2.1).wf = true ∧ p.2.2.2.size ≤ 9223372036854775807) := opens_struct4 Try.underlying82 (by kernel_rfl) rfl rfl rfl rfl  (by kernel_rfl) (by kernel_rfl) (by kernel_rfl) (by kernel_rfl)  (opens_slice Try.underlying80 (by kernel_rfl) o143) (opens_int (k := .i64) Try.underlying3) (opens_int (k := .i64) Try.underlying3) (opens_string Try.underlying9)
abbrev W82 (x : S82) : Prop := (x.f0.length ≤ 9223372036854775807 ∧ ∀ b ∈ x.f0, W143 b) ∧ (Lit.int .i64 x.f1).wf = true ∧ (Lit.int .i64 x.f2).wf = true ∧ x.f3.size ≤ 9223372036854775807
theorem o82 : Opens Try.prog 82 k82 W82 := opens_iso (fun x : S82 => (x.f0, x.f1, x.f2, x.f3)) (fun p => ⟨p.1, p.2.1, p.2.2.1, p.2.2.2⟩) (fun _ => rfl) p82
theorem p24 : Opens Try.prog 24 (Kd.pair (Kd.int .i64) (Kd.slice 82 k82)) (fun p => (Lit.int .i64 p.1).wf = true ∧ (p.2.length ≤ 9223372036854775807 ∧ ∀ b ∈ p.2, W82 b)) := opens_struct2 Try.underlying24 (by kernel_rfl) rfl rfl  (by kernel_rfl) (by kernel_rfl)  (opens_int (k := .i64) Try.underlying3) (opens_slice Try.underlying22 (by kernel_rfl) o82)
set_option maxRecDepth 100000 in
theorem lifted (os : Os) (started : os.Started) (H : Type) (enc : TypeId × Value → H) :
    ReturnsInHanded {} Try.checked os 11 .any (Rows.fnExactChainOkSpec.pre6 enc Try.prog Try.f11 Rows.fnExactChainOkRow.domain false) (Rows.fnExactChainOkSpec.post enc Try.prog Try.f11 false true false false) := by
  refine returnsInHanded_of_change_sized (C := Try.checked) own started (by kernel_rfl) Try.func11
    (ChangeSpec.witness6 (enc := enc) (C := Try.checked) false ⟨#[], #[.agg #[.int .i64 0, .slice none 0 0]], []⟩ 8 (by kernel_rfl) (by kernel_rfl) (by kernel_rfl) (by kernel_rfl)) ?_
  intro W base args ds gs before hval0 hW hcnd hsz0 _
  have hval : ∀ (j : Nat) t v, Try.f11.params[j]? = some t → args[j]? = some v → Value.okWide Try.prog W .any base t v := hval0
  have hW' := hW
  obtain ⟨p, q, hA0, hV, rfl, hfz, hnd⟩ := hW
  have hA : DataW.TrodAll enc Try.prog W 0 (fun _ => true) true Try.f11.params.toList args.toList ds p := hA0
  rw [Try.params11] at hA hval
  obtain ⟨v0, vs0, d0, ds0, p0, q0, hargs, rfl, rfl, h0, r0⟩ := trodAll_cons hA
  obtain ⟨rfl, rfl, rfl⟩ := trodAll_nil r0
  obtain rfl : args = #[v0] := by cases args; simp_all
  obtain ⟨rfl, rfl⟩ := trodVars_none hV
  have k0 := h0
  have lt0 : ∀ x ∈ p0, x.block < W.heap.size := by obtain ⟨m, hm⟩ := k0; exact DataW.trod_lt m _ _ _ hm
  obtain ⟨cs0, x0, rfl, hk0, w0⟩ := arg_struct Try.underlying24 p24 (hval 0 24 v0 rfl rfl) h0
  obtain ⟨a0_0, l0_1⟩ := x0
  obtain ⟨_, _, rfl, rfl, ⟨A0_1, c0_1, rfl, hc0_1, hr0_1⟩⟩ := hk0
  clear hA0 hval0
  obtain ⟨k, hf⟩ := Pure.FnExactChainOk a0_0 l0_1 w0
  refine (laws_FnExactChainOk.calls k a0_0 _ _ l0_1 true W hr0_1 hc0_1 ⟨rfl⟩ hf).mono fun e W' ⟨he, bel0⟩ => ?_
  have bel : Below W.heap.size W W' := bel0
  subst he
  exact ⟨_, rfl, _, _, _, [], _, [], hW', trodAll_mk1 (shut_bool Try.underlying4 _), (trodAll_cons_mk (Below.trod laidOut (by kernel_rfl) (of_decide_eq_true (by kernel_rfl)) k0 bel lt0) trodAll_mk0), rfl, bel.frame _, fun h => by cases h⟩
theorem over : Rows.fnExactChainOkRow.holds Try.pinned (OpenSpec.ofChange Rows.fnExactChainOkSpec) :=
  OpenClaim.holds_of_wide 11 Try.f11 rfl rfl rfl rfl rfl rfl rfl ⟨rfl, rfl, rfl, rfl, rfl⟩ rfl rfl rfl rfl rfl (by kernel_rfl) Try.func11 (by kernel_rfl)
    (of_decide_eq_true (by kernel_rfl)) (by unfold Func.isWrapper; first | (rw [if_pos (by decide +kernel)]; kernel_rfl) | (rw [if_neg (by decide +kernel)]; exact ⟨rfl, rfl⟩))
    (fun os started H enc _ => lifted os started H enc)
theorem proved : Rows.FnExactChainOkSaid := over
#print axioms proved
end Go.Proofs.Ytglefglknlcojac.fnExactChainOk
namespace Go.Proofs.Ytglefglknlcojac
/-- The row, under a short name, for the claim. -/
theorem fnExactChainOk_holds : Rows.FnExactChainOkSaid := fnExactChainOk.proved
end Go.Proofs.Ytglefglknlcojac
