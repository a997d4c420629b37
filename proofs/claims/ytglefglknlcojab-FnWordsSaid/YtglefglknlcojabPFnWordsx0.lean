/- What the Go functions that FnWords reaches compute, as Lean functions, and that the machine's calls do so; no conditions. -/
import Derived.Test.YtglefglknlcojabProg
import Derived.Below
import Derived.Deep.Draws
import Derived.Deep.AppendLies
import Derived.Maps.AppendAt
import Derived.OwnWalk
import Derived.Laws.BytesArg
import Derived.Laws.MakeOwn
import Derived.Laws.OwnMore
import Derived.Deep.OwnRows
import Derived.Tactics
import Derived.Lib.ConvBytes
import Derived.Laws.Slices
import Derived.WalkKit
import Derived.KernelRfl
import Derived.RowKit3
import Derived.Deep.LoopGhost
import Derived.Deep.QuietTactic
import Derived.BigQuiet
import Derived.WideLaws
import Derived.Deep.DeepCutAuto
import Derived.Deep.CutBlock
import Derived.Deep.RegionHeld3
import Derived.Laws.Rows
import Derived.Lib.AppendStr
import Derived.ArgAppend
import Derived.Laws.IdiomCopy
import Derived.OrdersHeld
import Derived.Laws.BitsLemmas
import Derived.RowKit
import Derived.WalkLawsBesides
import Derived.Test.YtglefglknlcojabWWords
import Derived.Test.YtglefglknlcojabWLast
import Derived.Test.YtglefglknlcojabWTab
import Derived.Test.YtglefglknlcojabWFour
import Derived.Test.YtglefglknlcojabWQPut
import Derived.Test.YtglefglknlcojabWApart
import Derived.Test.YtglefglknlcojabWArr
import Derived.Test.YtglefglknlcojabWZeros
import Derived.Test.YtglefglknlcojabWFoot
import Derived.Test.YtglefglknlcojabWKept
import Derived.Test.YtglefglknlcojabWShare
import Derived.Test.YtglefglknlcojabWN
import Derived.Test.YtglefglknlcojabWFootNe
import Derived.Test.YtglefglknlcojabWAt
import Derived.Test.YtglefglknlcojabWEqStruct
import Derived.Test.YtglefglknlcojabWRepsOne
import Derived.Test.YtglefglknlcojabWInv
import Derived.Test.YtglefglknlcojabWInvWords
import Derived.Test.YtglefglknlcojabWGuard
import Derived.Test.YtglefglknlcojabWNEv
import Derived.Test.YtglefglknlcojabWMore
namespace Go.Proofs.Ytglefglknlcojab.PFnWords
open Go.RowKit Go.Proofs.YtglefglknlcojabW.PrintWords Go.Proofs.YtglefglknlcojabW.PrintLast Go.Proofs.YtglefglknlcojabW.PrintMore
attribute [local go_sem] max2_int min2_int max_two min_two max_three min_three max_four min_four   -- for this text's walks alone
set_option linter.unusedVariables false
set_option linter.unusedSimpArgs false



def errW : Option Int → Value
  | none => .nilIface
  | some c => .iface 0 (.int .i64 c)
theorem errW_none : errW none = .nilIface := rfl
theorem errW_some (c : Int) : errW (some c) = .iface 0 (.int .i64 c) := rfl

theorem info3 : (Try.prog.info? 3).map (fun i => (i.zero, i.size, i.bytes)) = some (some (.int .i64 0), 1, 8) := by kernel_rfl
theorem info9 : (Try.prog.info? 9).map (fun i => (i.zero, i.size, i.bytes)) = some (some (.string ⟨#[]⟩), 1, 16) := by kernel_rfl
-- the values' own types

end Go.Proofs.Ytglefglknlcojab.PFnWords
