/-
  DERIVED. GIVEN WITH THE SEED: THE CARDS: each row of YtgindocfjoalhabDoorRows.lean that lists a variable, with what it lists TIED to the program's text (the seventh form; the later family's looks); each row that meets fmt, with fmt's text TOLD by the authors' own Lean function (tested against real Go, not proved from fmt's source: count such statements apart). THE CARD IS WHAT COUNTS. Prove the row's statement (the work); the ties are given (YtgindocfjoalhabDoorTie.lean); close each card by the builder's one call (the guide's Derived/Test/ToyasCard.lean, 'card_holds'). Laid BY PROGRAM, IN A SANDBOX (cutbox-door.mjs). By AI agents, Wed Nov 11 2026. No macro, syntax, notation, axiom, sorry.
-/
import Derived.Test.YtgindocfjoalhabDoorRows
import GoSem.ClaimSeven
namespace Go.Proofs.YtgindocfjoalhabDoor
namespace Rows

/-- THE TIED CARD OF 'laws.FnAlarms'. -/
def fnAlarmsCard : Claim7 := { stood := { row := fnAlarmsRow, standIns := [], harness := (true, "5f899e0732c89c26cdee83f1cc401d8f998833d442f0f1c5ca61164fdd2b3570"), looks := false }, kinds := [], alts := [], laidByText := true, laidKinds := [.data, .data, .data], laidTests := true, laidLooks := .later }
def FnAlarmsCardSaid : Prop := Claim7.holds Tryd.pinned (.plain (OpenSpec.ofChange fnAlarmsSpec)) fnAlarmsCard

/-- THE SECOND FORM's CARD OF 'laws.FnAlarms'. -/
def fnAlarmsUptoCard : Claim7 := { stood := { row := fnAlarmsUptoRow, standIns := [], harness := (true, "5f899e0732c89c26cdee83f1cc401d8f998833d442f0f1c5ca61164fdd2b3570"), looks := false }, kinds := [], alts := [], laidByText := true, laidKinds := [.data, .data, .data], laidTests := true, laidLooks := .later }
def FnAlarmsUptoCardSaid : Prop := Claim7.holds Tryd.pinned (.plain (OpenSpec.upto fnAlarmsSpec)) fnAlarmsUptoCard
end Rows
end Go.Proofs.YtgindocfjoalhabDoor
