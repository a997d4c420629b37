/-
  No cell of these rows narrows 'for every input' (looked for: loops, veiled, ifaces, maps, wideKeys, modest, calm, conditions, laid).
  DERIVED. THE GIVEN ROWS OF THIS SEAT. 11 by the template 'for every input the law returns true; each argument reads behind the call as it read before'; 0 by the template 'total and deterministic' (their statements: YtglefglknlcojacTotals.lean).
  GIVEN WITH THE SEED: the statements are not yours to turn. If you find one false, say at which input.
  Laid BY PROGRAM, IN A SANDBOX (cutbox-rows.mjs): the forced cells as the released guide's own fill.sh prints them over the translation 1b192a37795f3cfa… (all of the seat's roots in one cut). By AI agents, Wed Nov 11 2026. No macro, syntax, notation, axiom, sorry.
-/
import Derived.Test.YtglefglknlcojacChecked
import GoSem.Claim
import GoSem.ClaimJoined
import GoSem.ClaimMapViews
import Derived.JoinedTies
import Derived.KernelRfl
namespace Go.Proofs.Ytglefglknlcojac
/- THE CELL 'sum', in the pinned program and in every row, IS THE sha256 OF THE DUMP (.gsa) THAT YtglefglknlcojacProg.lean LOADS. Nothing in Lean hashes anything: it is a label: what it is worth is what the hold of that sum in a sandbox is worth. -/
noncomputable def Try.pinned : Pinned := { name := "ytglefglknlcojac", sum := "1b192a37795f3cfa2649bc6266cba12bcbb36943e05efe219642827d21b0cdfc", checked := Try.checked }
namespace Rows
def none {H : Type} : Left H := { results := [], args := [] }

/-- 'laws.FnExactDropOver': WHATEVER THE INPUT: true; the input reads as it did. -/
def fnExactDropOverSpec : ChangeSpec := { name := "fnExactDropOver", fn := fun _ => fun
  | [d1, d2] => { results := [.lit (.bool true)], args := [d1, d2] }
  | _ => none }
def fnExactDropOverRow : OpenClaim := { program := "ytglefglknlcojac", sum := "1b192a37795f3cfa2649bc6266cba12bcbb36943e05efe219642827d21b0cdfc", func := "loop.example/g00490/laws.FnExactDropOver", spec := "fnExactDropOver", apart := false }
def FnExactDropOverSaid : Prop := fnExactDropOverRow.holds Try.pinned (OpenSpec.ofChange fnExactDropOverSpec)

/-- ITS FALSE NEIGHBOUR: 'it returns false'. Refute it at one input. -/
def fnExactDropOverWrong : ChangeSpec := { name := "fnExactDropOver", fn := fun _ => fun
  | [d1, d2] => { results := [.lit (.bool false)], args := [d1, d2] }
  | _ => none }
def FnExactDropOverWrongFalsely : Prop := fnExactDropOverRow.holds Try.pinned (OpenSpec.ofChange fnExactDropOverWrong)

/-- 'laws.FnExactSamePart': WHATEVER THE INPUT: true; the input reads as it did. -/
def fnExactSamePartSpec : ChangeSpec := { name := "fnExactSamePart", fn := fun _ => fun
  | [d1, d2] => { results := [.lit (.bool true)], args := [d1, d2] }
  | _ => none }
def fnExactSamePartRow : OpenClaim := { program := "ytglefglknlcojac", sum := "1b192a37795f3cfa2649bc6266cba12bcbb36943e05efe219642827d21b0cdfc", func := "loop.example/g00490/laws.FnExactSamePart", spec := "fnExactSamePart", apart := false }
def FnExactSamePartSaid : Prop := fnExactSamePartRow.holds Try.pinned (OpenSpec.ofChange fnExactSamePartSpec)

/-- ITS FALSE NEIGHBOUR: 'it returns false'. Refute it at one input. -/
def fnExactSamePartWrong : ChangeSpec := { name := "fnExactSamePart", fn := fun _ => fun
  | [d1, d2] => { results := [.lit (.bool false)], args := [d1, d2] }
  | _ => none }
def FnExactSamePartWrongFalsely : Prop := fnExactSamePartRow.holds Try.pinned (OpenSpec.ofChange fnExactSamePartWrong)

/-- 'laws.FnKeys': WHATEVER THE INPUT: true; the input reads as it did. -/
def fnKeysSpec : ChangeSpec := { name := "fnKeys", fn := fun _ => fun
  | [d] => { results := [.lit (.bool true)], args := [d] }
  | _ => none }
def fnKeysRow : OpenClaim := { program := "ytglefglknlcojac", sum := "1b192a37795f3cfa2649bc6266cba12bcbb36943e05efe219642827d21b0cdfc", func := "loop.example/g00490/laws.FnKeys", spec := "fnKeys", apart := false }
def FnKeysSaid : Prop := fnKeysRow.holds Try.pinned (OpenSpec.ofChange fnKeysSpec)

/-- ITS FALSE NEIGHBOUR: 'it returns false'. Refute it at one input. -/
def fnKeysWrong : ChangeSpec := { name := "fnKeys", fn := fun _ => fun
  | [d] => { results := [.lit (.bool false)], args := [d] }
  | _ => none }
def FnKeysWrongFalsely : Prop := fnKeysRow.holds Try.pinned (OpenSpec.ofChange fnKeysWrong)

/-- 'laws.FnExactKeys': WHATEVER THE INPUT: true; the input reads as it did. -/
def fnExactKeysSpec : ChangeSpec := { name := "fnExactKeys", fn := fun _ => fun
  | [d1, d2] => { results := [.lit (.bool true)], args := [d1, d2] }
  | _ => none }
def fnExactKeysRow : OpenClaim := { program := "ytglefglknlcojac", sum := "1b192a37795f3cfa2649bc6266cba12bcbb36943e05efe219642827d21b0cdfc", func := "loop.example/g00490/laws.FnExactKeys", spec := "fnExactKeys", apart := false }
def FnExactKeysSaid : Prop := fnExactKeysRow.holds Try.pinned (OpenSpec.ofChange fnExactKeysSpec)

/-- ITS FALSE NEIGHBOUR: 'it returns false'. Refute it at one input. -/
def fnExactKeysWrong : ChangeSpec := { name := "fnExactKeys", fn := fun _ => fun
  | [d1, d2] => { results := [.lit (.bool false)], args := [d1, d2] }
  | _ => none }
def FnExactKeysWrongFalsely : Prop := fnExactKeysRow.holds Try.pinned (OpenSpec.ofChange fnExactKeysWrong)

/-- 'laws.FnExactAlarmsIn': WHATEVER THE INPUT: true; the input reads as it did. -/
def fnExactAlarmsInSpec : ChangeSpec := { name := "fnExactAlarmsIn", fn := fun _ => fun
  | [d] => { results := [.lit (.bool true)], args := [d] }
  | _ => none }
def fnExactAlarmsInRow : OpenClaim := { program := "ytglefglknlcojac", sum := "1b192a37795f3cfa2649bc6266cba12bcbb36943e05efe219642827d21b0cdfc", func := "loop.example/g00490/laws.FnExactAlarmsIn", spec := "fnExactAlarmsIn", apart := false }
def FnExactAlarmsInSaid : Prop := fnExactAlarmsInRow.holds Try.pinned (OpenSpec.ofChange fnExactAlarmsInSpec)

/-- ITS FALSE NEIGHBOUR: 'it returns false'. Refute it at one input. -/
def fnExactAlarmsInWrong : ChangeSpec := { name := "fnExactAlarmsIn", fn := fun _ => fun
  | [d] => { results := [.lit (.bool false)], args := [d] }
  | _ => none }
def FnExactAlarmsInWrongFalsely : Prop := fnExactAlarmsInRow.holds Try.pinned (OpenSpec.ofChange fnExactAlarmsInWrong)

/-- 'laws.FnExactPutChain': WHATEVER THE INPUT: true; the input reads as it did. -/
def fnExactPutChainSpec : ChangeSpec := { name := "fnExactPutChain", fn := fun _ => fun
  | [d1, d2] => { results := [.lit (.bool true)], args := [d1, d2] }
  | _ => none }
def fnExactPutChainRow : OpenClaim := { program := "ytglefglknlcojac", sum := "1b192a37795f3cfa2649bc6266cba12bcbb36943e05efe219642827d21b0cdfc", func := "loop.example/g00490/laws.FnExactPutChain", spec := "fnExactPutChain", apart := false }
def FnExactPutChainSaid : Prop := fnExactPutChainRow.holds Try.pinned (OpenSpec.ofChange fnExactPutChainSpec)

/-- ITS FALSE NEIGHBOUR: 'it returns false'. Refute it at one input. -/
def fnExactPutChainWrong : ChangeSpec := { name := "fnExactPutChain", fn := fun _ => fun
  | [d1, d2] => { results := [.lit (.bool false)], args := [d1, d2] }
  | _ => none }
def FnExactPutChainWrongFalsely : Prop := fnExactPutChainRow.holds Try.pinned (OpenSpec.ofChange fnExactPutChainWrong)

/-- 'laws.FnExactSweepIn': WHATEVER THE INPUT: true; the input reads as it did. -/
def fnExactSweepInSpec : ChangeSpec := { name := "fnExactSweepIn", fn := fun _ => fun
  | [d1, d2] => { results := [.lit (.bool true)], args := [d1, d2] }
  | _ => none }
def fnExactSweepInRow : OpenClaim := { program := "ytglefglknlcojac", sum := "1b192a37795f3cfa2649bc6266cba12bcbb36943e05efe219642827d21b0cdfc", func := "loop.example/g00490/laws.FnExactSweepIn", spec := "fnExactSweepIn", apart := false }
def FnExactSweepInSaid : Prop := fnExactSweepInRow.holds Try.pinned (OpenSpec.ofChange fnExactSweepInSpec)

/-- ITS FALSE NEIGHBOUR: 'it returns false'. Refute it at one input. -/
def fnExactSweepInWrong : ChangeSpec := { name := "fnExactSweepIn", fn := fun _ => fun
  | [d1, d2] => { results := [.lit (.bool false)], args := [d1, d2] }
  | _ => none }
def FnExactSweepInWrongFalsely : Prop := fnExactSweepInRow.holds Try.pinned (OpenSpec.ofChange fnExactSweepInWrong)

/-- 'laws.FnExactParseSet': WHATEVER THE INPUT: true; the input reads as it did. -/
def fnExactParseSetSpec : ChangeSpec := { name := "fnExactParseSet", fn := fun _ => fun
  | [d] => { results := [.lit (.bool true)], args := [d] }
  | _ => none }
def fnExactParseSetRow : OpenClaim := { program := "ytglefglknlcojac", sum := "1b192a37795f3cfa2649bc6266cba12bcbb36943e05efe219642827d21b0cdfc", func := "loop.example/g00490/laws.FnExactParseSet", spec := "fnExactParseSet", inPlace := ["internal/bytealg.IndexByteString", "internal/bytealg.IndexString", "internal/abi.NoEscape", "internal/bytealg.MakeNoZero"], named := ["internal/bytealg.MaxLen"], apart := false }
def FnExactParseSetSaid : Prop := fnExactParseSetRow.holds Try.pinned (OpenSpec.ofChange fnExactParseSetSpec)

/-- ITS FALSE NEIGHBOUR: 'it returns false'. Refute it at one input. -/
def fnExactParseSetWrong : ChangeSpec := { name := "fnExactParseSet", fn := fun _ => fun
  | [d] => { results := [.lit (.bool false)], args := [d] }
  | _ => none }
def FnExactParseSetWrongFalsely : Prop := fnExactParseSetRow.holds Try.pinned (OpenSpec.ofChange fnExactParseSetWrong)

/-- 'laws.FnExactChainOk': WHATEVER THE INPUT: true; the input reads as it did. -/
def fnExactChainOkSpec : ChangeSpec := { name := "fnExactChainOk", fn := fun _ => fun
  | [d] => { results := [.lit (.bool true)], args := [d] }
  | _ => none }
def fnExactChainOkRow : OpenClaim := { program := "ytglefglknlcojac", sum := "1b192a37795f3cfa2649bc6266cba12bcbb36943e05efe219642827d21b0cdfc", func := "loop.example/g00490/laws.FnExactChainOk", spec := "fnExactChainOk", inPlace := ["internal/abi.NoEscape", "internal/bytealg.MakeNoZero"], apart := false }
def FnExactChainOkSaid : Prop := fnExactChainOkRow.holds Try.pinned (OpenSpec.ofChange fnExactChainOkSpec)

/-- ITS FALSE NEIGHBOUR: 'it returns false'. Refute it at one input. -/
def fnExactChainOkWrong : ChangeSpec := { name := "fnExactChainOk", fn := fun _ => fun
  | [d] => { results := [.lit (.bool false)], args := [d] }
  | _ => none }
def FnExactChainOkWrongFalsely : Prop := fnExactChainOkRow.holds Try.pinned (OpenSpec.ofChange fnExactChainOkWrong)

/-- 'laws.FnExactSortSet': WHATEVER THE INPUT: true; the input reads as it did. -/
def fnExactSortSetSpec : ChangeSpec := { name := "fnExactSortSet", fn := fun _ => fun
  | [d] => { results := [.lit (.bool true)], args := [d] }
  | _ => none }
def fnExactSortSetRow : OpenClaim := { program := "ytglefglknlcojac", sum := "1b192a37795f3cfa2649bc6266cba12bcbb36943e05efe219642827d21b0cdfc", func := "loop.example/g00490/laws.FnExactSortSet", spec := "fnExactSortSet", inPlace := ["internal/reflectlite.ValueOf", "internal/reflectlite.Swapper", "(internal/reflectlite.Value).Len"], unfollowed := true, recurses := true, apart := false }
def FnExactSortSetSaid : Prop := fnExactSortSetRow.holds Try.pinned (OpenSpec.ofChange fnExactSortSetSpec)

/-- ITS FALSE NEIGHBOUR: 'it returns false'. Refute it at one input. -/
def fnExactSortSetWrong : ChangeSpec := { name := "fnExactSortSet", fn := fun _ => fun
  | [d] => { results := [.lit (.bool false)], args := [d] }
  | _ => none }
def FnExactSortSetWrongFalsely : Prop := fnExactSortSetRow.holds Try.pinned (OpenSpec.ofChange fnExactSortSetWrong)

/-- 'laws.FnSets': WHATEVER THE INPUT: true; the input reads as it did. -/
def fnSetsSpec : ChangeSpec := { name := "fnSets", fn := fun _ => fun
  | [d] => { results := [.lit (.bool true)], args := [d] }
  | _ => none }
def fnSetsRow : OpenClaim := { program := "ytglefglknlcojac", sum := "1b192a37795f3cfa2649bc6266cba12bcbb36943e05efe219642827d21b0cdfc", func := "loop.example/g00490/laws.FnSets", spec := "fnSets", inPlace := ["internal/reflectlite.ValueOf", "internal/reflectlite.Swapper", "(internal/reflectlite.Value).Len"], unfollowed := true, recurses := true, apart := false }
def FnSetsSaid : Prop := fnSetsRow.holds Try.pinned (OpenSpec.ofChange fnSetsSpec)

/-- ITS FALSE NEIGHBOUR: 'it returns false'. Refute it at one input. -/
def fnSetsWrong : ChangeSpec := { name := "fnSets", fn := fun _ => fun
  | [d] => { results := [.lit (.bool false)], args := [d] }
  | _ => none }
def FnSetsWrongFalsely : Prop := fnSetsRow.holds Try.pinned (OpenSpec.ofChange fnSetsWrong)

/- THE SECOND FORM. 'bulk': how many values and letters a reading holds, each counted each time it is reached (what is shared counts as often as it is met; a slice's spare places count too). A statement '..UptoSaid' is the law's where the arguments, and the package variables that the reading takes, are together of bulk at most 1048576: NARROWER than '..Said'. Prove '..Said' where nothing that the law and all that it calls make is longer than what came in: it says more and counts as full. Else prove '..UptoSaid'. A law counts once. -/
mutual
def uptoBulk {H : Type} : DataW H → Nat
  | .lit (.string bytes) => bytes.length + 1
  | .lit _ => 1
  | .nil => 1
  | .ptr d => uptoBulk d + 1
  | .slice elems spare => uptoBulkAll elems + uptoBulkAll spare + 1
  | .agg parts => uptoBulkAll parts + 1
  | .iface _ d => uptoBulk d + 1
  | .map entries => uptoBulkEntries entries + 1
  | .held _ => 1
def uptoBulkAll {H : Type} : List (DataW H) → Nat
  | [] => 0
  | d :: r => uptoBulk d + uptoBulkAll r
def uptoBulkEntries {H : Type} : List (Lit × DataW H) → Nat
  | [] => 0
  | x :: r => uptoBulkEntry x + uptoBulkEntries r
def uptoBulkEntry {H : Type} : Lit × DataW H → Nat
  | (.string bytes, d) => bytes.length + uptoBulk d + 1
  | (_, d) => uptoBulk d + 1
 end
def uptoSmall : (H : Type) → List (DataW H) → Bool := fun _ ds => decide (uptoBulkAll ds ≤ 1048576)
def OpenSpec.upto (s : _root_.Go.ChangeSpec) : _root_.Go.OpenSpec := { _root_.Go.OpenSpec.ofChange s with cond := some uptoSmall }

/-- 'laws.FnExactDropOver', WHERE WHAT IT READS IS OF BULK AT MOST 1048576: true; the input reads as it did. -/
def fnExactDropOverUptoRow : OpenClaim := { program := "ytglefglknlcojac", sum := "1b192a37795f3cfa2649bc6266cba12bcbb36943e05efe219642827d21b0cdfc", func := "loop.example/g00490/laws.FnExactDropOver", spec := "fnExactDropOver", apart := false, narrowed := true }
def FnExactDropOverUptoSaid : Prop := fnExactDropOverUptoRow.holds Try.pinned (OpenSpec.upto fnExactDropOverSpec)

/-- 'laws.FnExactSamePart', WHERE WHAT IT READS IS OF BULK AT MOST 1048576: true; the input reads as it did. -/
def fnExactSamePartUptoRow : OpenClaim := { program := "ytglefglknlcojac", sum := "1b192a37795f3cfa2649bc6266cba12bcbb36943e05efe219642827d21b0cdfc", func := "loop.example/g00490/laws.FnExactSamePart", spec := "fnExactSamePart", apart := false, narrowed := true }
def FnExactSamePartUptoSaid : Prop := fnExactSamePartUptoRow.holds Try.pinned (OpenSpec.upto fnExactSamePartSpec)

/-- 'laws.FnKeys', WHERE WHAT IT READS IS OF BULK AT MOST 1048576: true; the input reads as it did. -/
def fnKeysUptoRow : OpenClaim := { program := "ytglefglknlcojac", sum := "1b192a37795f3cfa2649bc6266cba12bcbb36943e05efe219642827d21b0cdfc", func := "loop.example/g00490/laws.FnKeys", spec := "fnKeys", apart := false, narrowed := true }
def FnKeysUptoSaid : Prop := fnKeysUptoRow.holds Try.pinned (OpenSpec.upto fnKeysSpec)

/-- 'laws.FnExactKeys', WHERE WHAT IT READS IS OF BULK AT MOST 1048576: true; the input reads as it did. -/
def fnExactKeysUptoRow : OpenClaim := { program := "ytglefglknlcojac", sum := "1b192a37795f3cfa2649bc6266cba12bcbb36943e05efe219642827d21b0cdfc", func := "loop.example/g00490/laws.FnExactKeys", spec := "fnExactKeys", apart := false, narrowed := true }
def FnExactKeysUptoSaid : Prop := fnExactKeysUptoRow.holds Try.pinned (OpenSpec.upto fnExactKeysSpec)

/-- 'laws.FnExactAlarmsIn', WHERE WHAT IT READS IS OF BULK AT MOST 1048576: true; the input reads as it did. -/
def fnExactAlarmsInUptoRow : OpenClaim := { program := "ytglefglknlcojac", sum := "1b192a37795f3cfa2649bc6266cba12bcbb36943e05efe219642827d21b0cdfc", func := "loop.example/g00490/laws.FnExactAlarmsIn", spec := "fnExactAlarmsIn", apart := false, narrowed := true }
def FnExactAlarmsInUptoSaid : Prop := fnExactAlarmsInUptoRow.holds Try.pinned (OpenSpec.upto fnExactAlarmsInSpec)

/-- 'laws.FnExactPutChain', WHERE WHAT IT READS IS OF BULK AT MOST 1048576: true; the input reads as it did. -/
def fnExactPutChainUptoRow : OpenClaim := { program := "ytglefglknlcojac", sum := "1b192a37795f3cfa2649bc6266cba12bcbb36943e05efe219642827d21b0cdfc", func := "loop.example/g00490/laws.FnExactPutChain", spec := "fnExactPutChain", apart := false, narrowed := true }
def FnExactPutChainUptoSaid : Prop := fnExactPutChainUptoRow.holds Try.pinned (OpenSpec.upto fnExactPutChainSpec)

/-- 'laws.FnExactSweepIn', WHERE WHAT IT READS IS OF BULK AT MOST 1048576: true; the input reads as it did. -/
def fnExactSweepInUptoRow : OpenClaim := { program := "ytglefglknlcojac", sum := "1b192a37795f3cfa2649bc6266cba12bcbb36943e05efe219642827d21b0cdfc", func := "loop.example/g00490/laws.FnExactSweepIn", spec := "fnExactSweepIn", apart := false, narrowed := true }
def FnExactSweepInUptoSaid : Prop := fnExactSweepInUptoRow.holds Try.pinned (OpenSpec.upto fnExactSweepInSpec)

/-- 'laws.FnExactParseSet', WHERE WHAT IT READS IS OF BULK AT MOST 1048576: true; the input reads as it did. -/
def fnExactParseSetUptoRow : OpenClaim := { program := "ytglefglknlcojac", sum := "1b192a37795f3cfa2649bc6266cba12bcbb36943e05efe219642827d21b0cdfc", func := "loop.example/g00490/laws.FnExactParseSet", spec := "fnExactParseSet", inPlace := ["internal/bytealg.IndexByteString", "internal/bytealg.IndexString", "internal/abi.NoEscape", "internal/bytealg.MakeNoZero"], named := ["internal/bytealg.MaxLen"], apart := false, narrowed := true }
def FnExactParseSetUptoSaid : Prop := fnExactParseSetUptoRow.holds Try.pinned (OpenSpec.upto fnExactParseSetSpec)

/-- 'laws.FnExactChainOk', WHERE WHAT IT READS IS OF BULK AT MOST 1048576: true; the input reads as it did. -/
def fnExactChainOkUptoRow : OpenClaim := { program := "ytglefglknlcojac", sum := "1b192a37795f3cfa2649bc6266cba12bcbb36943e05efe219642827d21b0cdfc", func := "loop.example/g00490/laws.FnExactChainOk", spec := "fnExactChainOk", inPlace := ["internal/abi.NoEscape", "internal/bytealg.MakeNoZero"], apart := false, narrowed := true }
def FnExactChainOkUptoSaid : Prop := fnExactChainOkUptoRow.holds Try.pinned (OpenSpec.upto fnExactChainOkSpec)

/-- 'laws.FnExactSortSet', WHERE WHAT IT READS IS OF BULK AT MOST 1048576: true; the input reads as it did. -/
def fnExactSortSetUptoRow : OpenClaim := { program := "ytglefglknlcojac", sum := "1b192a37795f3cfa2649bc6266cba12bcbb36943e05efe219642827d21b0cdfc", func := "loop.example/g00490/laws.FnExactSortSet", spec := "fnExactSortSet", inPlace := ["internal/reflectlite.ValueOf", "internal/reflectlite.Swapper", "(internal/reflectlite.Value).Len"], unfollowed := true, recurses := true, apart := false, narrowed := true }
def FnExactSortSetUptoSaid : Prop := fnExactSortSetUptoRow.holds Try.pinned (OpenSpec.upto fnExactSortSetSpec)

/-- 'laws.FnSets', WHERE WHAT IT READS IS OF BULK AT MOST 1048576: true; the input reads as it did. -/
def fnSetsUptoRow : OpenClaim := { program := "ytglefglknlcojac", sum := "1b192a37795f3cfa2649bc6266cba12bcbb36943e05efe219642827d21b0cdfc", func := "loop.example/g00490/laws.FnSets", spec := "fnSets", inPlace := ["internal/reflectlite.ValueOf", "internal/reflectlite.Swapper", "(internal/reflectlite.Value).Len"], unfollowed := true, recurses := true, apart := false, narrowed := true }
def FnSetsUptoSaid : Prop := fnSetsUptoRow.holds Try.pinned (OpenSpec.upto fnSetsSpec)

end Rows
end Go.Proofs.Ytglefglknlcojac
