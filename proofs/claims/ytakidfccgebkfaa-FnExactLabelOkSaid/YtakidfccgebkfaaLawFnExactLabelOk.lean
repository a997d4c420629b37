/- The row of FnExactLabelOk: for every input that reads as data of its types the law returns true, and each argument reads as it did; no conditions. -/
import Derived.Test.YtakidfccgebkfaaRows
import Derived.Test.YtakidfccgebkfaaPFnExactLabelOkx2
import Derived.Test.YtakidfccgebkfaaPureFnExactLabelOk
import Derived.Test.YtakidfccgebkfaaOpen
import Derived.WalkKit
import Derived.ProofKit
import Derived.OpenShut
import Derived.ShutString
import Derived.ChangeOld
import Derived.Below
import Derived.SizedLaws
import Derived.Carry
namespace Go.Proofs.Ytakidfccgebkfaa.fnExactLabelOk
open Go.ChangeShapes Go.WideShapes Go.ChangeAt Go.RowKit Go.Proofs.Ytakidfccgebkfaa.PFnExactLabelOk Go.Proofs.YtakidfccgebkfaaW.PrintWords Go.Proofs.Ytakidfccgebkfaa.Opened
open Go.ChangeMaps (open_string shut_string)
set_option linter.unusedVariables false
theorem own : ownKnob Try.prog.godebug = none := by kernel_rfl
theorem laidOut : laidOutB Try.prog = true := by kernel_rfl
theorem p49 : Opens Try.prog 49 (Kd.pair Kd.string Kd.string) (fun p => p.1.size ≤ 9223372036854775807 ∧ p.2.size ≤ 9223372036854775807) := opens_struct2 Try.underlying49 (by kernel_rfl) rfl rfl  (by kernel_rfl) (by kernel_rfl)  (opens_string Try.underlying9) (opens_string Try.underlying9)
set_option maxRecDepth 100000 in
theorem lifted (os : Os) (started : os.Started) (H : Type) (enc : TypeId × Value → H) :
    ReturnsInHanded {} Try.checked os 13 .any (Rows.fnExactLabelOkSpec.pre6 enc Try.prog Try.f13 Rows.fnExactLabelOkRow.domain false) (Rows.fnExactLabelOkSpec.post enc Try.prog Try.f13 false true false false) := by
  refine returnsInHanded_of_change_sized (C := Try.checked) own started (by kernel_rfl) Try.func13
    (ChangeSpec.witness6 (enc := enc) (C := Try.checked) false ⟨#[], #[.agg #[.string ByteArray.empty, .string ByteArray.empty]], []⟩ 8 (by kernel_rfl) (by kernel_rfl) (by kernel_rfl) (by kernel_rfl)) ?_
  intro W base args ds gs before hval0 hW hcnd hsz0 _
  have hval : ∀ (j : Nat) t v, Try.f13.params[j]? = some t → args[j]? = some v → Value.okWide Try.prog W .any base t v := hval0
  have hW' := hW
  obtain ⟨p, q, hA0, hV, rfl, hfz, hnd⟩ := hW
  have hA : DataW.TrodAll enc Try.prog W 0 (fun _ => true) true Try.f13.params.toList args.toList ds p := hA0
  rw [Try.params13] at hA hval
  obtain ⟨v0, vs0, d0, ds0, p0, q0, hargs, rfl, rfl, h0, r0⟩ := trodAll_cons hA
  obtain ⟨rfl, rfl, rfl⟩ := trodAll_nil r0
  obtain rfl : args = #[v0] := by cases args; simp_all
  obtain ⟨rfl, rfl⟩ := trodVars_none hV
  have k0 := h0
  have lt0 : ∀ x ∈ p0, x.block < W.heap.size := by obtain ⟨m, hm⟩ := k0; exact DataW.trod_lt m _ _ _ hm
  obtain ⟨cs0, x0, rfl, hk0, w0⟩ := arg_struct Try.underlying49 p49 (hval 0 49 v0 rfl rfl) h0
  obtain ⟨a0_0, a0_1⟩ := x0
  obtain ⟨_, _, rfl, rfl, rfl⟩ := hk0
  clear hA0 hval0
  obtain ⟨k, hf⟩ := Pure.FnExactLabelOk a0_0 a0_1 w0
  refine (laws_FnExactLabelOk.calls k a0_0 a0_1 true W hf).mono fun e W' ⟨he, bel0⟩ => ?_
  have bel : Below W.heap.size W W' := bel0
  subst he
  exact ⟨_, rfl, _, _, _, [], _, [], hW', trodAll_mk1 (shut_bool Try.underlying4 _), (trodAll_cons_mk (Below.trod laidOut (by kernel_rfl) (of_decide_eq_true (by kernel_rfl)) k0 bel lt0) trodAll_mk0), rfl, bel.frame _, fun h => by cases h⟩
theorem over : Rows.fnExactLabelOkRow.holds Try.pinned (OpenSpec.ofChange Rows.fnExactLabelOkSpec) :=
  OpenClaim.holds_of_wide 13 Try.f13 rfl rfl rfl rfl rfl rfl rfl ⟨rfl, rfl, rfl, rfl, rfl⟩ rfl rfl rfl rfl rfl (by kernel_rfl) Try.func13 (by kernel_rfl)
    (of_decide_eq_true (by kernel_rfl)) (by unfold Func.isWrapper; first | (rw [if_pos (by decide +kernel)]; kernel_rfl) | (rw [if_neg (by decide +kernel)]; exact ⟨rfl, rfl⟩))
    (fun os started H enc _ => lifted os started H enc)
theorem proved : Rows.FnExactLabelOkSaid := over
#print axioms proved
end Go.Proofs.Ytakidfccgebkfaa.fnExactLabelOk
namespace Go.Proofs.Ytakidfccgebkfaa
/-- The row, under a short name, for the claim. -/
theorem fnExactLabelOk_holds : Rows.FnExactLabelOkSaid := fnExactLabelOk.proved
end Go.Proofs.Ytakidfccgebkfaa
