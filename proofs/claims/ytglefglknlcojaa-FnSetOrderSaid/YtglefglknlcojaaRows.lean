/-
  No cell of these rows narrows 'for every input' (looked for: loops, veiled, ifaces, maps, wideKeys, modest, calm, conditions, laid).
  DERIVED. THE GIVEN ROWS OF THIS SEAT. 12 by the template 'for every input the law returns true; each argument reads behind the call as it read before'; 0 by the template 'total and deterministic' (their statements: YtglefglknlcojaaTotals.lean).
  GIVEN WITH THE SEED: the statements are not yours to turn. If you find one false, say at which input.
  Laid BY PROGRAM, IN A SANDBOX (cutbox-rows.mjs): the forced cells as the released guide's own fill.sh prints them over the translation 6c5e5c0574ce7bc2… (all of the seat's roots in one cut). By AI agents, Wed Nov 11 2026. No macro, syntax, notation, axiom, sorry.
-/
import Derived.Test.YtglefglknlcojaaChecked
import GoSem.Claim
import GoSem.ClaimJoined
import GoSem.ClaimMapViews
import Derived.JoinedTies
import Derived.KernelRfl
namespace Go.Proofs.Ytglefglknlcojaa
/- THE CELL 'sum', in the pinned program and in every row, IS THE sha256 OF THE DUMP (.gsa) THAT YtglefglknlcojaaProg.lean LOADS. Nothing in Lean hashes anything: it is a label: what it is worth is what the hold of that sum in a sandbox is worth. -/
noncomputable def Try.pinned : Pinned := { name := "ytglefglknlcojaa", sum := "6c5e5c0574ce7bc2224d915fafe4fbd19f0c0baf413f6558c12ae5258086c928", checked := Try.checked }
namespace Rows
def none {H : Type} : Left H := { results := [], args := [] }

/-- 'laws.FnExactValOf': WHATEVER THE INPUT: true; the input reads as it did. -/
def fnExactValOfSpec : ChangeSpec := { name := "fnExactValOf", fn := fun _ => fun
  | [d1, d2] => { results := [.lit (.bool true)], args := [d1, d2] }
  | _ => none }
def fnExactValOfRow : OpenClaim := { program := "ytglefglknlcojaa", sum := "6c5e5c0574ce7bc2224d915fafe4fbd19f0c0baf413f6558c12ae5258086c928", func := "loop.example/g00490/laws.FnExactValOf", spec := "fnExactValOf", apart := false }
def FnExactValOfSaid : Prop := fnExactValOfRow.holds Try.pinned (OpenSpec.ofChange fnExactValOfSpec)

/-- ITS FALSE NEIGHBOUR: 'it returns false'. Refute it at one input. -/
def fnExactValOfWrong : ChangeSpec := { name := "fnExactValOf", fn := fun _ => fun
  | [d1, d2] => { results := [.lit (.bool false)], args := [d1, d2] }
  | _ => none }
def FnExactValOfWrongFalsely : Prop := fnExactValOfRow.holds Try.pinned (OpenSpec.ofChange fnExactValOfWrong)

/-- 'laws.FnExactSameSet': WHATEVER THE INPUT: true; the input reads as it did. -/
def fnExactSameSetSpec : ChangeSpec := { name := "fnExactSameSet", fn := fun _ => fun
  | [d1, d2] => { results := [.lit (.bool true)], args := [d1, d2] }
  | _ => none }
def fnExactSameSetRow : OpenClaim := { program := "ytglefglknlcojaa", sum := "6c5e5c0574ce7bc2224d915fafe4fbd19f0c0baf413f6558c12ae5258086c928", func := "loop.example/g00490/laws.FnExactSameSet", spec := "fnExactSameSet", apart := false }
def FnExactSameSetSaid : Prop := fnExactSameSetRow.holds Try.pinned (OpenSpec.ofChange fnExactSameSetSpec)

/-- ITS FALSE NEIGHBOUR: 'it returns false'. Refute it at one input. -/
def fnExactSameSetWrong : ChangeSpec := { name := "fnExactSameSet", fn := fun _ => fun
  | [d1, d2] => { results := [.lit (.bool false)], args := [d1, d2] }
  | _ => none }
def FnExactSameSetWrongFalsely : Prop := fnExactSameSetRow.holds Try.pinned (OpenSpec.ofChange fnExactSameSetWrong)

/-- 'laws.FnExactSetLess': WHATEVER THE INPUT: true; the input reads as it did. -/
def fnExactSetLessSpec : ChangeSpec := { name := "fnExactSetLess", fn := fun _ => fun
  | [d1, d2] => { results := [.lit (.bool true)], args := [d1, d2] }
  | _ => none }
def fnExactSetLessRow : OpenClaim := { program := "ytglefglknlcojaa", sum := "6c5e5c0574ce7bc2224d915fafe4fbd19f0c0baf413f6558c12ae5258086c928", func := "loop.example/g00490/laws.FnExactSetLess", spec := "fnExactSetLess", apart := false }
def FnExactSetLessSaid : Prop := fnExactSetLessRow.holds Try.pinned (OpenSpec.ofChange fnExactSetLessSpec)

/-- ITS FALSE NEIGHBOUR: 'it returns false'. Refute it at one input. -/
def fnExactSetLessWrong : ChangeSpec := { name := "fnExactSetLess", fn := fun _ => fun
  | [d1, d2] => { results := [.lit (.bool false)], args := [d1, d2] }
  | _ => none }
def FnExactSetLessWrongFalsely : Prop := fnExactSetLessRow.holds Try.pinned (OpenSpec.ofChange fnExactSetLessWrong)

/-- 'laws.FnExactByOk': WHATEVER THE INPUT: true; the input reads as it did. -/
def fnExactByOkSpec : ChangeSpec := { name := "fnExactByOk", fn := fun _ => fun
  | [d] => { results := [.lit (.bool true)], args := [d] }
  | _ => none }
def fnExactByOkRow : OpenClaim := { program := "ytglefglknlcojaa", sum := "6c5e5c0574ce7bc2224d915fafe4fbd19f0c0baf413f6558c12ae5258086c928", func := "loop.example/g00490/laws.FnExactByOk", spec := "fnExactByOk", apart := false }
def FnExactByOkSaid : Prop := fnExactByOkRow.holds Try.pinned (OpenSpec.ofChange fnExactByOkSpec)

/-- ITS FALSE NEIGHBOUR: 'it returns false'. Refute it at one input. -/
def fnExactByOkWrong : ChangeSpec := { name := "fnExactByOk", fn := fun _ => fun
  | [d] => { results := [.lit (.bool false)], args := [d] }
  | _ => none }
def FnExactByOkWrongFalsely : Prop := fnExactByOkRow.holds Try.pinned (OpenSpec.ofChange fnExactByOkWrong)

/-- 'laws.FnExactOver': WHATEVER THE INPUT: true; the input reads as it did. -/
def fnExactOverSpec : ChangeSpec := { name := "fnExactOver", fn := fun _ => fun
  | [d1, d2] => { results := [.lit (.bool true)], args := [d1, d2] }
  | _ => none }
def fnExactOverRow : OpenClaim := { program := "ytglefglknlcojaa", sum := "6c5e5c0574ce7bc2224d915fafe4fbd19f0c0baf413f6558c12ae5258086c928", func := "loop.example/g00490/laws.FnExactOver", spec := "fnExactOver", apart := false }
def FnExactOverSaid : Prop := fnExactOverRow.holds Try.pinned (OpenSpec.ofChange fnExactOverSpec)

/-- ITS FALSE NEIGHBOUR: 'it returns false'. Refute it at one input. -/
def fnExactOverWrong : ChangeSpec := { name := "fnExactOver", fn := fun _ => fun
  | [d1, d2] => { results := [.lit (.bool false)], args := [d1, d2] }
  | _ => none }
def FnExactOverWrongFalsely : Prop := fnExactOverRow.holds Try.pinned (OpenSpec.ofChange fnExactOverWrong)

/-- 'laws.FnExactTouch': WHATEVER THE INPUT: true; the input reads as it did. -/
def fnExactTouchSpec : ChangeSpec := { name := "fnExactTouch", fn := fun _ => fun
  | [d1, d2] => { results := [.lit (.bool true)], args := [d1, d2] }
  | _ => none }
def fnExactTouchRow : OpenClaim := { program := "ytglefglknlcojaa", sum := "6c5e5c0574ce7bc2224d915fafe4fbd19f0c0baf413f6558c12ae5258086c928", func := "loop.example/g00490/laws.FnExactTouch", spec := "fnExactTouch", apart := false }
def FnExactTouchSaid : Prop := fnExactTouchRow.holds Try.pinned (OpenSpec.ofChange fnExactTouchSpec)

/-- ITS FALSE NEIGHBOUR: 'it returns false'. Refute it at one input. -/
def fnExactTouchWrong : ChangeSpec := { name := "fnExactTouch", fn := fun _ => fun
  | [d1, d2] => { results := [.lit (.bool false)], args := [d1, d2] }
  | _ => none }
def FnExactTouchWrongFalsely : Prop := fnExactTouchRow.holds Try.pinned (OpenSpec.ofChange fnExactTouchWrong)

/-- 'laws.FnChains': WHATEVER THE INPUT: true; the input reads as it did. -/
def fnChainsSpec : ChangeSpec := { name := "fnChains", fn := fun _ => fun
  | [d] => { results := [.lit (.bool true)], args := [d] }
  | _ => none }
def fnChainsRow : OpenClaim := { program := "ytglefglknlcojaa", sum := "6c5e5c0574ce7bc2224d915fafe4fbd19f0c0baf413f6558c12ae5258086c928", func := "loop.example/g00490/laws.FnChains", spec := "fnChains", inPlace := ["internal/abi.NoEscape", "internal/bytealg.MakeNoZero"], apart := false }
def FnChainsSaid : Prop := fnChainsRow.holds Try.pinned (OpenSpec.ofChange fnChainsSpec)

/-- ITS FALSE NEIGHBOUR: 'it returns false'. Refute it at one input. -/
def fnChainsWrong : ChangeSpec := { name := "fnChains", fn := fun _ => fun
  | [d] => { results := [.lit (.bool false)], args := [d] }
  | _ => none }
def FnChainsWrongFalsely : Prop := fnChainsRow.holds Try.pinned (OpenSpec.ofChange fnChainsWrong)

/-- 'laws.FnSetOrder': WHATEVER THE INPUT: true; the input reads as it did. -/
def fnSetOrderSpec : ChangeSpec := { name := "fnSetOrder", fn := fun _ => fun
  | [d] => { results := [.lit (.bool true)], args := [d] }
  | _ => none }
def fnSetOrderRow : OpenClaim := { program := "ytglefglknlcojaa", sum := "6c5e5c0574ce7bc2224d915fafe4fbd19f0c0baf413f6558c12ae5258086c928", func := "loop.example/g00490/laws.FnSetOrder", spec := "fnSetOrder", apart := false }
def FnSetOrderSaid : Prop := fnSetOrderRow.holds Try.pinned (OpenSpec.ofChange fnSetOrderSpec)

/-- ITS FALSE NEIGHBOUR: 'it returns false'. Refute it at one input. -/
def fnSetOrderWrong : ChangeSpec := { name := "fnSetOrder", fn := fun _ => fun
  | [d] => { results := [.lit (.bool false)], args := [d] }
  | _ => none }
def FnSetOrderWrongFalsely : Prop := fnSetOrderRow.holds Try.pinned (OpenSpec.ofChange fnSetOrderWrong)

/-- 'laws.FnExactSetOk': WHATEVER THE INPUT: true; the input reads as it did. -/
def fnExactSetOkSpec : ChangeSpec := { name := "fnExactSetOk", fn := fun _ => fun
  | [d] => { results := [.lit (.bool true)], args := [d] }
  | _ => none }
def fnExactSetOkRow : OpenClaim := { program := "ytglefglknlcojaa", sum := "6c5e5c0574ce7bc2224d915fafe4fbd19f0c0baf413f6558c12ae5258086c928", func := "loop.example/g00490/laws.FnExactSetOk", spec := "fnExactSetOk", apart := false }
def FnExactSetOkSaid : Prop := fnExactSetOkRow.holds Try.pinned (OpenSpec.ofChange fnExactSetOkSpec)

/-- ITS FALSE NEIGHBOUR: 'it returns false'. Refute it at one input. -/
def fnExactSetOkWrong : ChangeSpec := { name := "fnExactSetOk", fn := fun _ => fun
  | [d] => { results := [.lit (.bool false)], args := [d] }
  | _ => none }
def FnExactSetOkWrongFalsely : Prop := fnExactSetOkRow.holds Try.pinned (OpenSpec.ofChange fnExactSetOkWrong)

/-- 'laws.FnExactSameAlarm': WHATEVER THE INPUT: true; the input reads as it did. -/
def fnExactSameAlarmSpec : ChangeSpec := { name := "fnExactSameAlarm", fn := fun _ => fun
  | [d1, d2] => { results := [.lit (.bool true)], args := [d1, d2] }
  | _ => none }
def fnExactSameAlarmRow : OpenClaim := { program := "ytglefglknlcojaa", sum := "6c5e5c0574ce7bc2224d915fafe4fbd19f0c0baf413f6558c12ae5258086c928", func := "loop.example/g00490/laws.FnExactSameAlarm", spec := "fnExactSameAlarm", apart := false }
def FnExactSameAlarmSaid : Prop := fnExactSameAlarmRow.holds Try.pinned (OpenSpec.ofChange fnExactSameAlarmSpec)

/-- ITS FALSE NEIGHBOUR: 'it returns false'. Refute it at one input. -/
def fnExactSameAlarmWrong : ChangeSpec := { name := "fnExactSameAlarm", fn := fun _ => fun
  | [d1, d2] => { results := [.lit (.bool false)], args := [d1, d2] }
  | _ => none }
def FnExactSameAlarmWrongFalsely : Prop := fnExactSameAlarmRow.holds Try.pinned (OpenSpec.ofChange fnExactSameAlarmWrong)

/-- 'laws.FnExactAlarmOk': WHATEVER THE INPUT: true; the input reads as it did. -/
def fnExactAlarmOkSpec : ChangeSpec := { name := "fnExactAlarmOk", fn := fun _ => fun
  | [d] => { results := [.lit (.bool true)], args := [d] }
  | _ => none }
def fnExactAlarmOkRow : OpenClaim := { program := "ytglefglknlcojaa", sum := "6c5e5c0574ce7bc2224d915fafe4fbd19f0c0baf413f6558c12ae5258086c928", func := "loop.example/g00490/laws.FnExactAlarmOk", spec := "fnExactAlarmOk", apart := false }
def FnExactAlarmOkSaid : Prop := fnExactAlarmOkRow.holds Try.pinned (OpenSpec.ofChange fnExactAlarmOkSpec)

/-- ITS FALSE NEIGHBOUR: 'it returns false'. Refute it at one input. -/
def fnExactAlarmOkWrong : ChangeSpec := { name := "fnExactAlarmOk", fn := fun _ => fun
  | [d] => { results := [.lit (.bool false)], args := [d] }
  | _ => none }
def FnExactAlarmOkWrongFalsely : Prop := fnExactAlarmOkRow.holds Try.pinned (OpenSpec.ofChange fnExactAlarmOkWrong)

/-- 'laws.FnExactProject': WHATEVER THE INPUT: true; the input reads as it did. -/
def fnExactProjectSpec : ChangeSpec := { name := "fnExactProject", fn := fun _ => fun
  | [d1, d2] => { results := [.lit (.bool true)], args := [d1, d2] }
  | _ => none }
def fnExactProjectRow : OpenClaim := { program := "ytglefglknlcojaa", sum := "6c5e5c0574ce7bc2224d915fafe4fbd19f0c0baf413f6558c12ae5258086c928", func := "loop.example/g00490/laws.FnExactProject", spec := "fnExactProject", apart := false }
def FnExactProjectSaid : Prop := fnExactProjectRow.holds Try.pinned (OpenSpec.ofChange fnExactProjectSpec)

/-- ITS FALSE NEIGHBOUR: 'it returns false'. Refute it at one input. -/
def fnExactProjectWrong : ChangeSpec := { name := "fnExactProject", fn := fun _ => fun
  | [d1, d2] => { results := [.lit (.bool false)], args := [d1, d2] }
  | _ => none }
def FnExactProjectWrongFalsely : Prop := fnExactProjectRow.holds Try.pinned (OpenSpec.ofChange fnExactProjectWrong)

/- THE SECOND FORM. 'bulk': how many values and letters a reading holds, each counted each time it is reached (what is shared counts as often as it is met; a slice's spare places count too). A statement '..UptoSaid' is the law's where the arguments, and the package variables that the reading takes, are together of bulk at most 1048576: NARROWER than '..Said'. Prove '..Said' where nothing that the law and all that it calls make is longer than what came in: it says more and counts as full. Else prove '..UptoSaid'. A law counts once. -/
mutual
def uptoBulk {H : Type} : DataW H → Nat
  | .lit (.string bytes) => bytes.length + 1
  | .lit _ => 1
  | .nil => 1
  | .ptr d => uptoBulk d + 1
  | .slice elems spare => uptoBulkAll elems + uptoBulkAll spare + 1
  | .agg parts => uptoBulkAll parts + 1
  | .iface _ d => uptoBulk d + 1
  | .map entries => uptoBulkEntries entries + 1
  | .held _ => 1
def uptoBulkAll {H : Type} : List (DataW H) → Nat
  | [] => 0
  | d :: r => uptoBulk d + uptoBulkAll r
def uptoBulkEntries {H : Type} : List (Lit × DataW H) → Nat
  | [] => 0
  | x :: r => uptoBulkEntry x + uptoBulkEntries r
def uptoBulkEntry {H : Type} : Lit × DataW H → Nat
  | (.string bytes, d) => bytes.length + uptoBulk d + 1
  | (_, d) => uptoBulk d + 1
 end
def uptoSmall : (H : Type) → List (DataW H) → Bool := fun _ ds => decide (uptoBulkAll ds ≤ 1048576)
def OpenSpec.upto (s : _root_.Go.ChangeSpec) : _root_.Go.OpenSpec := { _root_.Go.OpenSpec.ofChange s with cond := some uptoSmall }

/-- 'laws.FnExactValOf', WHERE WHAT IT READS IS OF BULK AT MOST 1048576: true; the input reads as it did. -/
def fnExactValOfUptoRow : OpenClaim := { program := "ytglefglknlcojaa", sum := "6c5e5c0574ce7bc2224d915fafe4fbd19f0c0baf413f6558c12ae5258086c928", func := "loop.example/g00490/laws.FnExactValOf", spec := "fnExactValOf", apart := false, narrowed := true }
def FnExactValOfUptoSaid : Prop := fnExactValOfUptoRow.holds Try.pinned (OpenSpec.upto fnExactValOfSpec)

/-- 'laws.FnExactSameSet', WHERE WHAT IT READS IS OF BULK AT MOST 1048576: true; the input reads as it did. -/
def fnExactSameSetUptoRow : OpenClaim := { program := "ytglefglknlcojaa", sum := "6c5e5c0574ce7bc2224d915fafe4fbd19f0c0baf413f6558c12ae5258086c928", func := "loop.example/g00490/laws.FnExactSameSet", spec := "fnExactSameSet", apart := false, narrowed := true }
def FnExactSameSetUptoSaid : Prop := fnExactSameSetUptoRow.holds Try.pinned (OpenSpec.upto fnExactSameSetSpec)

/-- 'laws.FnExactSetLess', WHERE WHAT IT READS IS OF BULK AT MOST 1048576: true; the input reads as it did. -/
def fnExactSetLessUptoRow : OpenClaim := { program := "ytglefglknlcojaa", sum := "6c5e5c0574ce7bc2224d915fafe4fbd19f0c0baf413f6558c12ae5258086c928", func := "loop.example/g00490/laws.FnExactSetLess", spec := "fnExactSetLess", apart := false, narrowed := true }
def FnExactSetLessUptoSaid : Prop := fnExactSetLessUptoRow.holds Try.pinned (OpenSpec.upto fnExactSetLessSpec)

/-- 'laws.FnExactByOk', WHERE WHAT IT READS IS OF BULK AT MOST 1048576: true; the input reads as it did. -/
def fnExactByOkUptoRow : OpenClaim := { program := "ytglefglknlcojaa", sum := "6c5e5c0574ce7bc2224d915fafe4fbd19f0c0baf413f6558c12ae5258086c928", func := "loop.example/g00490/laws.FnExactByOk", spec := "fnExactByOk", apart := false, narrowed := true }
def FnExactByOkUptoSaid : Prop := fnExactByOkUptoRow.holds Try.pinned (OpenSpec.upto fnExactByOkSpec)

/-- 'laws.FnExactOver', WHERE WHAT IT READS IS OF BULK AT MOST 1048576: true; the input reads as it did. -/
def fnExactOverUptoRow : OpenClaim := { program := "ytglefglknlcojaa", sum := "6c5e5c0574ce7bc2224d915fafe4fbd19f0c0baf413f6558c12ae5258086c928", func := "loop.example/g00490/laws.FnExactOver", spec := "fnExactOver", apart := false, narrowed := true }
def FnExactOverUptoSaid : Prop := fnExactOverUptoRow.holds Try.pinned (OpenSpec.upto fnExactOverSpec)

/-- 'laws.FnExactTouch', WHERE WHAT IT READS IS OF BULK AT MOST 1048576: true; the input reads as it did. -/
def fnExactTouchUptoRow : OpenClaim := { program := "ytglefglknlcojaa", sum := "6c5e5c0574ce7bc2224d915fafe4fbd19f0c0baf413f6558c12ae5258086c928", func := "loop.example/g00490/laws.FnExactTouch", spec := "fnExactTouch", apart := false, narrowed := true }
def FnExactTouchUptoSaid : Prop := fnExactTouchUptoRow.holds Try.pinned (OpenSpec.upto fnExactTouchSpec)

/-- 'laws.FnChains', WHERE WHAT IT READS IS OF BULK AT MOST 1048576: true; the input reads as it did. -/
def fnChainsUptoRow : OpenClaim := { program := "ytglefglknlcojaa", sum := "6c5e5c0574ce7bc2224d915fafe4fbd19f0c0baf413f6558c12ae5258086c928", func := "loop.example/g00490/laws.FnChains", spec := "fnChains", inPlace := ["internal/abi.NoEscape", "internal/bytealg.MakeNoZero"], apart := false, narrowed := true }
def FnChainsUptoSaid : Prop := fnChainsUptoRow.holds Try.pinned (OpenSpec.upto fnChainsSpec)

/-- 'laws.FnSetOrder', WHERE WHAT IT READS IS OF BULK AT MOST 1048576: true; the input reads as it did. -/
def fnSetOrderUptoRow : OpenClaim := { program := "ytglefglknlcojaa", sum := "6c5e5c0574ce7bc2224d915fafe4fbd19f0c0baf413f6558c12ae5258086c928", func := "loop.example/g00490/laws.FnSetOrder", spec := "fnSetOrder", apart := false, narrowed := true }
def FnSetOrderUptoSaid : Prop := fnSetOrderUptoRow.holds Try.pinned (OpenSpec.upto fnSetOrderSpec)

/-- 'laws.FnExactSetOk', WHERE WHAT IT READS IS OF BULK AT MOST 1048576: true; the input reads as it did. -/
def fnExactSetOkUptoRow : OpenClaim := { program := "ytglefglknlcojaa", sum := "6c5e5c0574ce7bc2224d915fafe4fbd19f0c0baf413f6558c12ae5258086c928", func := "loop.example/g00490/laws.FnExactSetOk", spec := "fnExactSetOk", apart := false, narrowed := true }
def FnExactSetOkUptoSaid : Prop := fnExactSetOkUptoRow.holds Try.pinned (OpenSpec.upto fnExactSetOkSpec)

/-- 'laws.FnExactSameAlarm', WHERE WHAT IT READS IS OF BULK AT MOST 1048576: true; the input reads as it did. -/
def fnExactSameAlarmUptoRow : OpenClaim := { program := "ytglefglknlcojaa", sum := "6c5e5c0574ce7bc2224d915fafe4fbd19f0c0baf413f6558c12ae5258086c928", func := "loop.example/g00490/laws.FnExactSameAlarm", spec := "fnExactSameAlarm", apart := false, narrowed := true }
def FnExactSameAlarmUptoSaid : Prop := fnExactSameAlarmUptoRow.holds Try.pinned (OpenSpec.upto fnExactSameAlarmSpec)

/-- 'laws.FnExactAlarmOk', WHERE WHAT IT READS IS OF BULK AT MOST 1048576: true; the input reads as it did. -/
def fnExactAlarmOkUptoRow : OpenClaim := { program := "ytglefglknlcojaa", sum := "6c5e5c0574ce7bc2224d915fafe4fbd19f0c0baf413f6558c12ae5258086c928", func := "loop.example/g00490/laws.FnExactAlarmOk", spec := "fnExactAlarmOk", apart := false, narrowed := true }
def FnExactAlarmOkUptoSaid : Prop := fnExactAlarmOkUptoRow.holds Try.pinned (OpenSpec.upto fnExactAlarmOkSpec)

/-- 'laws.FnExactProject', WHERE WHAT IT READS IS OF BULK AT MOST 1048576: true; the input reads as it did. -/
def fnExactProjectUptoRow : OpenClaim := { program := "ytglefglknlcojaa", sum := "6c5e5c0574ce7bc2224d915fafe4fbd19f0c0baf413f6558c12ae5258086c928", func := "loop.example/g00490/laws.FnExactProject", spec := "fnExactProject", apart := false, narrowed := true }
def FnExactProjectUptoSaid : Prop := fnExactProjectUptoRow.holds Try.pinned (OpenSpec.upto fnExactProjectSpec)

end Rows
end Go.Proofs.Ytglefglknlcojaa
