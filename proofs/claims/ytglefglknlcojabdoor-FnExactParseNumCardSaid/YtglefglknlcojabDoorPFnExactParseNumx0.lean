/- What the Go functions that FnExactParseNum reaches compute, as Lean functions, and that the machine's calls do so; no conditions. -/
import Derived.Test.YtglefglknlcojabDoorProg
import Derived.Below
import Derived.Deep.Draws
import Derived.Deep.AppendLies
import Derived.Maps.AppendAt
import Derived.OwnWalk
import Derived.Laws.BytesArg
import Derived.Laws.MakeOwn
import Derived.Laws.OwnMore
import Derived.Deep.OwnRows
import Derived.Tactics
import Derived.Lib.ConvBytes
import Derived.Laws.Slices
import Derived.WalkKit
import Derived.KernelRfl
import Derived.RowKit3
import Derived.Deep.LoopGhost
import Derived.Deep.QuietTactic
import Derived.BigQuiet
import Derived.WideLaws
import Derived.Deep.DeepCutAuto
import Derived.Deep.CutBlock
import Derived.Deep.RegionHeld3
import Derived.Laws.Rows
import Derived.Lib.AppendStr
import Derived.ArgAppend
import Derived.Laws.IdiomCopy
import Derived.OrdersHeld
import Derived.Laws.BitsLemmas
import Derived.RowKit
import Derived.WalkLawsBesides
import Derived.Test.YtglefglknlcojabDoorForeign
import Derived.Test.YtglefglknlcojabDoorWWords
import Derived.Test.YtglefglknlcojabDoorWLast
import Derived.Test.YtglefglknlcojabDoorWTab
import Derived.Test.YtglefglknlcojabDoorWFour
import Derived.Test.YtglefglknlcojabDoorWQPut
import Derived.Test.YtglefglknlcojabDoorWApart
import Derived.Test.YtglefglknlcojabDoorWArr
import Derived.Test.YtglefglknlcojabDoorWZeros
import Derived.Test.YtglefglknlcojabDoorWFoot
import Derived.Test.YtglefglknlcojabDoorWKept
import Derived.Test.YtglefglknlcojabDoorWShare
import Derived.Test.YtglefglknlcojabDoorWN
import Derived.Test.YtglefglknlcojabDoorWFootNe
import Derived.Test.YtglefglknlcojabDoorWAt
import Derived.Test.YtglefglknlcojabDoorWEqStruct
import Derived.Test.YtglefglknlcojabDoorWRepsOne
import Derived.Test.YtglefglknlcojabDoorWInv
import Derived.Test.YtglefglknlcojabDoorWInvWords
import Derived.Test.YtglefglknlcojabDoorWGuard
import Derived.Test.YtglefglknlcojabDoorWNEv
import Derived.Test.YtglefglknlcojabDoorWMore
namespace Go.Proofs.YtglefglknlcojabDoor.PFnExactParseNum
open Go.Proofs.YtglefglknlcojabDoor
open Go.RowKit Go.Proofs.YtglefglknlcojabDoorW.PrintWords Go.Proofs.YtglefglknlcojabDoorW.PrintLast Go.Proofs.YtglefglknlcojabDoorW.PrintMore
attribute [local go_sem] max2_int min2_int max_two min_two max_three min_three max_four min_four   -- for this text's walks alone
set_option linter.unusedVariables false
set_option linter.unusedSimpArgs false



def errW : Option Int → Value
  | none => .nilIface
  | some c => .iface 0 (.int .i64 c)
theorem errW_none : errW none = .nilIface := rfl
theorem errW_some (c : Int) : errW (some c) = .iface 0 (.int .i64 c) := rfl

-- the values' own types

end Go.Proofs.YtglefglknlcojabDoor.PFnExactParseNum
