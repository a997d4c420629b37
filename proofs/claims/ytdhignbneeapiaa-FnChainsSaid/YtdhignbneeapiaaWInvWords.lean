-- PRINTED BY print.sh 35421559b90ae4d0a3588c463048766b98c2df88dd9212a6774a882060cdf62d: not written by this session
import Derived.Test.YtdhignbneeapiaaWInv
import Derived.Test.YtdhignbneeapiaaWFootNe
namespace Go.Proofs.YtdhignbneeapiaaW.PrintWords
open Go.RowKit
end Go.Proofs.YtdhignbneeapiaaW.PrintWords
namespace Go.Proofs.YtdhignbneeapiaaW.PrintLast
section
variable {ops : Array Oper} {a : Act} {o og : Oper} {g : Nat} {t : Tmp} {u : Bool}
end
end Go.Proofs.YtdhignbneeapiaaW.PrintLast
