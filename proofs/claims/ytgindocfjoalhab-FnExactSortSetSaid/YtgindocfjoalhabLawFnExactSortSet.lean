/- The row of FnExactSortSet: for every input that reads as data of its types the law returns true, and each argument reads as it did; no conditions. -/
import Derived.Test.YtgindocfjoalhabRows
import Derived.Test.YtgindocfjoalhabPFnExactSortSetx8
import Derived.Test.YtgindocfjoalhabPureFnExactSortSet
import Derived.Test.YtgindocfjoalhabOpen
import Derived.WalkKit
import Derived.ProofKit
import Derived.OpenShut
import Derived.ShutString
import Derived.ChangeOld
import Derived.Below
import Derived.SizedLaws
import Derived.Carry
namespace Go.Proofs.Ytgindocfjoalhab.fnExactSortSet
open Go.ChangeShapes Go.WideShapes Go.ChangeAt Go.RowKit Go.Proofs.Ytgindocfjoalhab.PFnExactSortSet Go.Proofs.YtgindocfjoalhabW.PrintWords Go.Proofs.Ytgindocfjoalhab.Opened
open Go.ChangeMaps (open_string shut_string)
set_option linter.unusedVariables false
theorem own : ownKnob Try.prog.godebug = none := by kernel_rfl
theorem laidOut : laidOutB Try.prog = true := by kernel_rfl
theorem p122 : Opens Try.prog 122 (Kd.pair Kd.string Kd.string) (fun p => p.1.size ≤ 9223372036854775807 ∧ p.2.size ≤ 9223372036854775807) := opens_struct2 Try.underlying122 (by kernel_rfl) rfl rfl  (by kernel_rfl) (by kernel_rfl)  (opens_string Try.underlying9) (opens_string Try.underlying9)
abbrev W122 (x : S122) : Prop := x.f0.size ≤ 9223372036854775807 ∧ x.f1.size ≤ 9223372036854775807
theorem o122 : Opens Try.prog 122 k122 W122 := opens_iso (fun x : S122 => (x.f0, x.f1)) (fun p => ⟨p.1, p.2⟩) (fun _ => rfl) p122
set_option maxRecDepth 100000 in
theorem lifted (os : Os) (started : os.Started) (H : Type) (enc : TypeId × Value → H) :
    ReturnsInHanded {} Try.checked os 6 .any (Rows.fnExactSortSetSpec.pre6 enc Try.prog Try.f6 Rows.fnExactSortSetRow.domain false) (Rows.fnExactSortSetSpec.post enc Try.prog Try.f6 false true false false) := by
  refine returnsInHanded_of_change_sized (C := Try.checked) own started (by kernel_rfl) Try.func6
    (ChangeSpec.witness6 (enc := enc) (C := Try.checked) false ⟨#[], #[.slice none 0 0], []⟩ 8 (by kernel_rfl) (by kernel_rfl) (by kernel_rfl) (by kernel_rfl)) ?_
  intro W base args ds gs before hval0 hW hcnd hsz0 _
  have hval : ∀ (j : Nat) t v, Try.f6.params[j]? = some t → args[j]? = some v → Value.okWide Try.prog W .any base t v := hval0
  have hW' := hW
  obtain ⟨p, q, hA0, hV, rfl, hfz, hnd⟩ := hW
  have hA : DataW.TrodAll enc Try.prog W 0 (fun _ => true) true Try.f6.params.toList args.toList ds p := hA0
  rw [Try.params6] at hA hval
  obtain ⟨v0, vs0, d0, ds0, p0, q0, hargs, rfl, rfl, h0, r0⟩ := trodAll_cons hA
  obtain ⟨rfl, rfl, rfl⟩ := trodAll_nil r0
  obtain rfl : args = #[v0] := by cases args; simp_all
  obtain ⟨rfl, rfl⟩ := trodVars_none hV
  have k0 := h0
  have lt0 : ∀ x ∈ p0, x.block < W.heap.size := by obtain ⟨m, hm⟩ := k0; exact DataW.trod_lt m _ _ _ hm
  obtain ⟨A0, c0, l0, rfl, hc0, hr0, w0⟩ := arg_slice Try.underlying79 (opens_slice Try.underlying79 (by kernel_rfl) o122) (hval 0 79 v0 rfl rfl) h0
  clear hA0 hval0
  obtain ⟨k, hf⟩ := Pure.FnExactSortSet l0 w0
  refine (laws_FnExactSortSet.calls k _ _ l0 true W hr0 hc0 ⟨rfl⟩ hf).mono fun e W' ⟨he, bel0⟩ => ?_
  have bel : Below W.heap.size W W' := bel0
  subst he
  exact ⟨_, rfl, _, _, _, [], _, [], hW', trodAll_mk1 (shut_bool Try.underlying4 _), (trodAll_cons_mk (Below.trod laidOut (by kernel_rfl) (of_decide_eq_true (by kernel_rfl)) k0 bel lt0) trodAll_mk0), rfl, bel.frame _, fun h => by cases h⟩
theorem over : Rows.fnExactSortSetRow.holds Try.pinned (OpenSpec.ofChange Rows.fnExactSortSetSpec) :=
  OpenClaim.holds_of_wide 6 Try.f6 rfl rfl rfl rfl rfl rfl rfl ⟨rfl, rfl, rfl, rfl, rfl⟩ rfl rfl rfl rfl rfl (by kernel_rfl) Try.func6 (by kernel_rfl)
    (of_decide_eq_true (by kernel_rfl)) (by unfold Func.isWrapper; first | (rw [if_pos (by decide +kernel)]; kernel_rfl) | (rw [if_neg (by decide +kernel)]; exact ⟨rfl, rfl⟩))
    (fun os started H enc _ => lifted os started H enc)
theorem proved : Rows.FnExactSortSetSaid := over
#print axioms proved
end Go.Proofs.Ytgindocfjoalhab.fnExactSortSet
namespace Go.Proofs.Ytgindocfjoalhab
/-- The row, under a short name, for the claim. -/
theorem fnExactSortSet_holds : Rows.FnExactSortSetSaid := fnExactSortSet.proved
end Go.Proofs.Ytgindocfjoalhab
