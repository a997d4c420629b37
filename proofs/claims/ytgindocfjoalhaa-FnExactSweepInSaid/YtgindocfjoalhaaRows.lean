/-
  No cell of these rows narrows 'for every input' (looked for: loops, veiled, ifaces, maps, wideKeys, modest, calm, conditions, laid).
  DERIVED. THE GIVEN ROWS OF THIS SEAT. 6 by the template 'for every input the law returns true; each argument reads behind the call as it read before'; 0 by the template 'total and deterministic' (their statements: YtgindocfjoalhaaTotals.lean).
  GIVEN WITH THE SEED: the statements are not yours to turn. If you find one false, say at which input.
  Laid BY PROGRAM, IN A SANDBOX (cutbox-rows.mjs): the forced cells as the released guide's own fill.sh prints them over the translation 872594acdd312b92… (all of the seat's roots in one cut). By AI agents, Wed Nov 11 2026. No macro, syntax, notation, axiom, sorry.
-/
import Derived.Test.YtgindocfjoalhaaChecked
import GoSem.Claim
import GoSem.ClaimJoined
import GoSem.ClaimMapViews
import Derived.JoinedTies
import Derived.KernelRfl
namespace Go.Proofs.Ytgindocfjoalhaa
/- THE CELL 'sum', in the pinned program and in every row, IS THE sha256 OF THE DUMP (.gsa) THAT YtgindocfjoalhaaProg.lean LOADS. Nothing in Lean hashes anything: it is a label: what it is worth is what the hold of that sum in a sandbox is worth. -/
noncomputable def Try.pinned : Pinned := { name := "ytgindocfjoalhaa", sum := "872594acdd312b920a9ef18c877f5f0a9b511059773fcf3379f4f755ac9a01ff", checked := Try.checked }
namespace Rows
def none {H : Type} : Left H := { results := [], args := [] }

/-- 'laws.FnMerges': WHATEVER THE INPUT: true; the input reads as it did. -/
def fnMergesSpec : ChangeSpec := { name := "fnMerges", fn := fun _ => fun
  | [d] => { results := [.lit (.bool true)], args := [d] }
  | _ => none }
def fnMergesRow : OpenClaim := { program := "ytgindocfjoalhaa", sum := "872594acdd312b920a9ef18c877f5f0a9b511059773fcf3379f4f755ac9a01ff", func := "loop.example/g00490/laws.FnMerges", spec := "fnMerges", apart := false }
def FnMergesSaid : Prop := fnMergesRow.holds Try.pinned (OpenSpec.ofChange fnMergesSpec)

/-- ITS FALSE NEIGHBOUR: 'it returns false'. Refute it at one input. -/
def fnMergesWrong : ChangeSpec := { name := "fnMerges", fn := fun _ => fun
  | [d] => { results := [.lit (.bool false)], args := [d] }
  | _ => none }
def FnMergesWrongFalsely : Prop := fnMergesRow.holds Try.pinned (OpenSpec.ofChange fnMergesWrong)

/-- 'laws.FnExactDropOver': WHATEVER THE INPUT: true; the input reads as it did. -/
def fnExactDropOverSpec : ChangeSpec := { name := "fnExactDropOver", fn := fun _ => fun
  | [d1, d2] => { results := [.lit (.bool true)], args := [d1, d2] }
  | _ => none }
def fnExactDropOverRow : OpenClaim := { program := "ytgindocfjoalhaa", sum := "872594acdd312b920a9ef18c877f5f0a9b511059773fcf3379f4f755ac9a01ff", func := "loop.example/g00490/laws.FnExactDropOver", spec := "fnExactDropOver", apart := false }
def FnExactDropOverSaid : Prop := fnExactDropOverRow.holds Try.pinned (OpenSpec.ofChange fnExactDropOverSpec)

/-- ITS FALSE NEIGHBOUR: 'it returns false'. Refute it at one input. -/
def fnExactDropOverWrong : ChangeSpec := { name := "fnExactDropOver", fn := fun _ => fun
  | [d1, d2] => { results := [.lit (.bool false)], args := [d1, d2] }
  | _ => none }
def FnExactDropOverWrongFalsely : Prop := fnExactDropOverRow.holds Try.pinned (OpenSpec.ofChange fnExactDropOverWrong)

/-- 'laws.FnExactAlarmsIn': WHATEVER THE INPUT: true; the input reads as it did. -/
def fnExactAlarmsInSpec : ChangeSpec := { name := "fnExactAlarmsIn", fn := fun _ => fun
  | [d] => { results := [.lit (.bool true)], args := [d] }
  | _ => none }
def fnExactAlarmsInRow : OpenClaim := { program := "ytgindocfjoalhaa", sum := "872594acdd312b920a9ef18c877f5f0a9b511059773fcf3379f4f755ac9a01ff", func := "loop.example/g00490/laws.FnExactAlarmsIn", spec := "fnExactAlarmsIn", apart := false }
def FnExactAlarmsInSaid : Prop := fnExactAlarmsInRow.holds Try.pinned (OpenSpec.ofChange fnExactAlarmsInSpec)

/-- ITS FALSE NEIGHBOUR: 'it returns false'. Refute it at one input. -/
def fnExactAlarmsInWrong : ChangeSpec := { name := "fnExactAlarmsIn", fn := fun _ => fun
  | [d] => { results := [.lit (.bool false)], args := [d] }
  | _ => none }
def FnExactAlarmsInWrongFalsely : Prop := fnExactAlarmsInRow.holds Try.pinned (OpenSpec.ofChange fnExactAlarmsInWrong)

/-- 'laws.FnExactPutChain': WHATEVER THE INPUT: true; the input reads as it did. -/
def fnExactPutChainSpec : ChangeSpec := { name := "fnExactPutChain", fn := fun _ => fun
  | [d1, d2] => { results := [.lit (.bool true)], args := [d1, d2] }
  | _ => none }
def fnExactPutChainRow : OpenClaim := { program := "ytgindocfjoalhaa", sum := "872594acdd312b920a9ef18c877f5f0a9b511059773fcf3379f4f755ac9a01ff", func := "loop.example/g00490/laws.FnExactPutChain", spec := "fnExactPutChain", apart := false }
def FnExactPutChainSaid : Prop := fnExactPutChainRow.holds Try.pinned (OpenSpec.ofChange fnExactPutChainSpec)

/-- ITS FALSE NEIGHBOUR: 'it returns false'. Refute it at one input. -/
def fnExactPutChainWrong : ChangeSpec := { name := "fnExactPutChain", fn := fun _ => fun
  | [d1, d2] => { results := [.lit (.bool false)], args := [d1, d2] }
  | _ => none }
def FnExactPutChainWrongFalsely : Prop := fnExactPutChainRow.holds Try.pinned (OpenSpec.ofChange fnExactPutChainWrong)

/-- 'laws.FnExactSweepIn': WHATEVER THE INPUT: true; the input reads as it did. -/
def fnExactSweepInSpec : ChangeSpec := { name := "fnExactSweepIn", fn := fun _ => fun
  | [d1, d2] => { results := [.lit (.bool true)], args := [d1, d2] }
  | _ => none }
def fnExactSweepInRow : OpenClaim := { program := "ytgindocfjoalhaa", sum := "872594acdd312b920a9ef18c877f5f0a9b511059773fcf3379f4f755ac9a01ff", func := "loop.example/g00490/laws.FnExactSweepIn", spec := "fnExactSweepIn", apart := false }
def FnExactSweepInSaid : Prop := fnExactSweepInRow.holds Try.pinned (OpenSpec.ofChange fnExactSweepInSpec)

/-- ITS FALSE NEIGHBOUR: 'it returns false'. Refute it at one input. -/
def fnExactSweepInWrong : ChangeSpec := { name := "fnExactSweepIn", fn := fun _ => fun
  | [d1, d2] => { results := [.lit (.bool false)], args := [d1, d2] }
  | _ => none }
def FnExactSweepInWrongFalsely : Prop := fnExactSweepInRow.holds Try.pinned (OpenSpec.ofChange fnExactSweepInWrong)

/-- 'laws.FnExactKeys': WHATEVER THE INPUT: true; the input reads as it did. -/
def fnExactKeysSpec : ChangeSpec := { name := "fnExactKeys", fn := fun _ => fun
  | [d1, d2] => { results := [.lit (.bool true)], args := [d1, d2] }
  | _ => none }
def fnExactKeysRow : OpenClaim := { program := "ytgindocfjoalhaa", sum := "872594acdd312b920a9ef18c877f5f0a9b511059773fcf3379f4f755ac9a01ff", func := "loop.example/g00490/laws.FnExactKeys", spec := "fnExactKeys", apart := false }
def FnExactKeysSaid : Prop := fnExactKeysRow.holds Try.pinned (OpenSpec.ofChange fnExactKeysSpec)

/-- ITS FALSE NEIGHBOUR: 'it returns false'. Refute it at one input. -/
def fnExactKeysWrong : ChangeSpec := { name := "fnExactKeys", fn := fun _ => fun
  | [d1, d2] => { results := [.lit (.bool false)], args := [d1, d2] }
  | _ => none }
def FnExactKeysWrongFalsely : Prop := fnExactKeysRow.holds Try.pinned (OpenSpec.ofChange fnExactKeysWrong)

/- THE SECOND FORM. 'bulk': how many values and letters a reading holds, each counted each time it is reached (what is shared counts as often as it is met; a slice's spare places count too). A statement '..UptoSaid' is the law's where the arguments, and the package variables that the reading takes, are together of bulk at most 1048576: NARROWER than '..Said'. Prove '..Said' where nothing that the law and all that it calls make is longer than what came in: it says more and counts as full. Else prove '..UptoSaid'. A law counts once. -/
mutual
def uptoBulk {H : Type} : DataW H → Nat
  | .lit (.string bytes) => bytes.length + 1
  | .lit _ => 1
  | .nil => 1
  | .ptr d => uptoBulk d + 1
  | .slice elems spare => uptoBulkAll elems + uptoBulkAll spare + 1
  | .agg parts => uptoBulkAll parts + 1
  | .iface _ d => uptoBulk d + 1
  | .map entries => uptoBulkEntries entries + 1
  | .held _ => 1
def uptoBulkAll {H : Type} : List (DataW H) → Nat
  | [] => 0
  | d :: r => uptoBulk d + uptoBulkAll r
def uptoBulkEntries {H : Type} : List (Lit × DataW H) → Nat
  | [] => 0
  | x :: r => uptoBulkEntry x + uptoBulkEntries r
def uptoBulkEntry {H : Type} : Lit × DataW H → Nat
  | (.string bytes, d) => bytes.length + uptoBulk d + 1
  | (_, d) => uptoBulk d + 1
 end
def uptoSmall : (H : Type) → List (DataW H) → Bool := fun _ ds => decide (uptoBulkAll ds ≤ 1048576)
def OpenSpec.upto (s : _root_.Go.ChangeSpec) : _root_.Go.OpenSpec := { _root_.Go.OpenSpec.ofChange s with cond := some uptoSmall }

/-- 'laws.FnMerges', WHERE WHAT IT READS IS OF BULK AT MOST 1048576: true; the input reads as it did. -/
def fnMergesUptoRow : OpenClaim := { program := "ytgindocfjoalhaa", sum := "872594acdd312b920a9ef18c877f5f0a9b511059773fcf3379f4f755ac9a01ff", func := "loop.example/g00490/laws.FnMerges", spec := "fnMerges", apart := false, narrowed := true }
def FnMergesUptoSaid : Prop := fnMergesUptoRow.holds Try.pinned (OpenSpec.upto fnMergesSpec)

/-- 'laws.FnExactDropOver', WHERE WHAT IT READS IS OF BULK AT MOST 1048576: true; the input reads as it did. -/
def fnExactDropOverUptoRow : OpenClaim := { program := "ytgindocfjoalhaa", sum := "872594acdd312b920a9ef18c877f5f0a9b511059773fcf3379f4f755ac9a01ff", func := "loop.example/g00490/laws.FnExactDropOver", spec := "fnExactDropOver", apart := false, narrowed := true }
def FnExactDropOverUptoSaid : Prop := fnExactDropOverUptoRow.holds Try.pinned (OpenSpec.upto fnExactDropOverSpec)

/-- 'laws.FnExactAlarmsIn', WHERE WHAT IT READS IS OF BULK AT MOST 1048576: true; the input reads as it did. -/
def fnExactAlarmsInUptoRow : OpenClaim := { program := "ytgindocfjoalhaa", sum := "872594acdd312b920a9ef18c877f5f0a9b511059773fcf3379f4f755ac9a01ff", func := "loop.example/g00490/laws.FnExactAlarmsIn", spec := "fnExactAlarmsIn", apart := false, narrowed := true }
def FnExactAlarmsInUptoSaid : Prop := fnExactAlarmsInUptoRow.holds Try.pinned (OpenSpec.upto fnExactAlarmsInSpec)

/-- 'laws.FnExactPutChain', WHERE WHAT IT READS IS OF BULK AT MOST 1048576: true; the input reads as it did. -/
def fnExactPutChainUptoRow : OpenClaim := { program := "ytgindocfjoalhaa", sum := "872594acdd312b920a9ef18c877f5f0a9b511059773fcf3379f4f755ac9a01ff", func := "loop.example/g00490/laws.FnExactPutChain", spec := "fnExactPutChain", apart := false, narrowed := true }
def FnExactPutChainUptoSaid : Prop := fnExactPutChainUptoRow.holds Try.pinned (OpenSpec.upto fnExactPutChainSpec)

/-- 'laws.FnExactSweepIn', WHERE WHAT IT READS IS OF BULK AT MOST 1048576: true; the input reads as it did. -/
def fnExactSweepInUptoRow : OpenClaim := { program := "ytgindocfjoalhaa", sum := "872594acdd312b920a9ef18c877f5f0a9b511059773fcf3379f4f755ac9a01ff", func := "loop.example/g00490/laws.FnExactSweepIn", spec := "fnExactSweepIn", apart := false, narrowed := true }
def FnExactSweepInUptoSaid : Prop := fnExactSweepInUptoRow.holds Try.pinned (OpenSpec.upto fnExactSweepInSpec)

/-- 'laws.FnExactKeys', WHERE WHAT IT READS IS OF BULK AT MOST 1048576: true; the input reads as it did. -/
def fnExactKeysUptoRow : OpenClaim := { program := "ytgindocfjoalhaa", sum := "872594acdd312b920a9ef18c877f5f0a9b511059773fcf3379f4f755ac9a01ff", func := "loop.example/g00490/laws.FnExactKeys", spec := "fnExactKeys", apart := false, narrowed := true }
def FnExactKeysUptoSaid : Prop := fnExactKeysUptoRow.holds Try.pinned (OpenSpec.upto fnExactKeysSpec)

end Rows
end Go.Proofs.Ytgindocfjoalhaa
