/- What strconv.Itoa computes, and that the machine's call of it does so, where the library's table lies as its initialiser lays it. -/
import Derived.Test.YtglefglknlcojacDoorWMore
import Derived.Test.YtglefglknlcojacDoorShelf
import Derived.Lib.SmallJoins
import Derived.Lib.AppendIntMem
set_option linter.unusedVariables false
set_option linter.unusedSimpArgs false
namespace Go.Proofs.YtglefglknlcojacDoor.Foreign
open Go.RowKit Go.Proofs.YtglefglknlcojacDoorW.PrintWords

/-- The table of powers of ten lies as its initialiser lays it. -/
def Laid (w : World) : Prop := Lib.TabIs Tryd.prog w "internal/strconv.uint64pow10" .u64 Lib.pow10Tab
theorem gT : Tryd.prog.globalNamed "internal/strconv.uint64pow10" = some 0 := by kernel_rfl
theorem laid_below {w w' : World} (h : Laid w) (hb : Below w.heap.size w w') : Laid w' := Go.Joins.tab_stays gT h hb (Nat.le_refl _)
def itoaBytes (n : Int) : ByteArray := ⟨(Lib.itoa n).toArray⟩
def itoaOf (n : Int) : Option ByteArray := if -9223372036854775808 ≤ n ∧ n ≤ 9223372036854775807 then some (itoaBytes n) else none
theorem itoa_calls (a0 : Int) (r : ByteArray) (w : World) (h : itoaOf a0 = some r) (hG : Laid w) :
    Calls Tryd.prog 15 #[.int .i64 a0] w fun e w' => e = .returned (.string r) ∧ Below w.heap.size w w' := by
  unfold itoaOf at h
  split at h
  · rename_i hb
    obtain rfl := Option.some.inj h
    refine (Tryd.strconv_Itoa a0 hb.1 hb.2 w hG).mono ?_
    rintro e w' ⟨rfl, k, os, rfl⟩
    exact ⟨rfl, Go.Lib.below_grow _ w (Nat.le_refl _) k os⟩
  · cases h
end Go.Proofs.YtglefglknlcojacDoor.Foreign
