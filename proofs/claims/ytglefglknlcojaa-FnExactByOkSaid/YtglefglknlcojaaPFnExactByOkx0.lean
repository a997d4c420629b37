/- What the Go functions that FnExactByOk reaches compute, as Lean functions, and that the machine's calls do so; no conditions. -/
import Derived.Test.YtglefglknlcojaaProg
import Derived.Below
import Derived.Deep.Draws
import Derived.Deep.AppendLies
import Derived.Maps.AppendAt
import Derived.OwnWalk
import Derived.Laws.BytesArg
import Derived.Laws.MakeOwn
import Derived.Laws.OwnMore
import Derived.Deep.OwnRows
import Derived.Tactics
import Derived.Lib.ConvBytes
import Derived.Laws.Slices
import Derived.WalkKit
import Derived.KernelRfl
import Derived.RowKit3
import Derived.Deep.LoopGhost
import Derived.Deep.QuietTactic
import Derived.BigQuiet
import Derived.WideLaws
import Derived.Deep.DeepCutAuto
import Derived.Deep.CutBlock
import Derived.Deep.RegionHeld3
import Derived.Laws.Rows
import Derived.Lib.AppendStr
import Derived.ArgAppend
import Derived.Laws.IdiomCopy
import Derived.OrdersHeld
import Derived.Laws.BitsLemmas
import Derived.RowKit
import Derived.WalkLawsBesides
import Derived.Test.YtglefglknlcojaaWWords
import Derived.Test.YtglefglknlcojaaWLast
import Derived.Test.YtglefglknlcojaaWTab
import Derived.Test.YtglefglknlcojaaWFour
import Derived.Test.YtglefglknlcojaaWQPut
import Derived.Test.YtglefglknlcojaaWApart
import Derived.Test.YtglefglknlcojaaWArr
import Derived.Test.YtglefglknlcojaaWZeros
import Derived.Test.YtglefglknlcojaaWFoot
import Derived.Test.YtglefglknlcojaaWKept
import Derived.Test.YtglefglknlcojaaWShare
import Derived.Test.YtglefglknlcojaaWN
import Derived.Test.YtglefglknlcojaaWFootNe
import Derived.Test.YtglefglknlcojaaWAt
import Derived.Test.YtglefglknlcojaaWEqStruct
import Derived.Test.YtglefglknlcojaaWRepsOne
import Derived.Test.YtglefglknlcojaaWInv
import Derived.Test.YtglefglknlcojaaWInvWords
import Derived.Test.YtglefglknlcojaaWGuard
import Derived.Test.YtglefglknlcojaaWNEv
import Derived.Test.YtglefglknlcojaaWMore
namespace Go.Proofs.Ytglefglknlcojaa.PFnExactByOk
open Go.RowKit Go.Proofs.YtglefglknlcojaaW.PrintWords Go.Proofs.YtglefglknlcojaaW.PrintLast Go.Proofs.YtglefglknlcojaaW.PrintMore
attribute [local go_sem] max2_int min2_int max_two min_two max_three min_three max_four min_four   -- for this text's walks alone
set_option linter.unusedVariables false
set_option linter.unusedSimpArgs false



def errW : Option Int → Value
  | none => .nilIface
  | some c => .iface 0 (.int .i64 c)
theorem errW_none : errW none = .nilIface := rfl
theorem errW_some (c : Int) : errW (some c) = .iface 0 (.int .i64 c) := rfl

theorem info9 : (Try.prog.info? 9).map (fun i => (i.zero, i.size, i.bytes)) = some (some (.string ⟨#[]⟩), 1, 16) := by kernel_rfl
-- the values' own types

end Go.Proofs.Ytglefglknlcojaa.PFnExactByOk
