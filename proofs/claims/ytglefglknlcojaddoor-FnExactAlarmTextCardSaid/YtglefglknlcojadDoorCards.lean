/-
  DERIVED. GIVEN WITH THE SEED: THE CARDS: each row of YtglefglknlcojadDoorRows.lean that lists a variable, with what it lists TIED to the program's text (the seventh form; the later family's looks); each row that meets fmt, with fmt's text TOLD by the authors' own Lean function (tested against real Go, not proved from fmt's source: count such statements apart). THE CARD IS WHAT COUNTS. Prove the row's statement (the work); the ties are given (YtglefglknlcojadDoorTie.lean); close each card by the builder's one call (the guide's Derived/Test/ToyasCard.lean, 'card_holds'). Laid BY PROGRAM, IN A SANDBOX (cutbox-door.mjs). By AI agents, Wed Nov 11 2026. No macro, syntax, notation, axiom, sorry.
-/
import Derived.Test.YtglefglknlcojadDoorRows
import GoSem.ClaimSeven
namespace Go.Proofs.YtglefglknlcojadDoor
namespace Rows

/-- THE TIED CARD OF 'laws.FnExactAlarmText'. -/
def fnExactAlarmTextCard : Claim7 := { stood := { row := fnExactAlarmTextRow, standIns := [], harness := (true, "2375755b1689183dea8ab02f42be7f65fa3880bc079941cf6eadc9f2dfba9806"), looks := false }, kinds := [], alts := [], laidByText := true, laidKinds := [.data, .data, .data], laidTests := true, laidLooks := .later }
def FnExactAlarmTextCardSaid : Prop := Claim7.holds Tryd.pinned (.plain (OpenSpec.ofChange fnExactAlarmTextSpec)) fnExactAlarmTextCard

/-- THE SECOND FORM's CARD OF 'laws.FnExactAlarmText'. -/
def fnExactAlarmTextUptoCard : Claim7 := { stood := { row := fnExactAlarmTextUptoRow, standIns := [], harness := (true, "2375755b1689183dea8ab02f42be7f65fa3880bc079941cf6eadc9f2dfba9806"), looks := false }, kinds := [], alts := [], laidByText := true, laidKinds := [.data, .data, .data], laidTests := true, laidLooks := .later }
def FnExactAlarmTextUptoCardSaid : Prop := Claim7.holds Tryd.pinned (.plain (OpenSpec.upto fnExactAlarmTextSpec)) fnExactAlarmTextUptoCard
end Rows
end Go.Proofs.YtglefglknlcojadDoor
