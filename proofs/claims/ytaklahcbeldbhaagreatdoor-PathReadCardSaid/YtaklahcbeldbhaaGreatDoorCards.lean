/-
  DERIVED. GIVEN WITH THE SEED: THE CARDS: each row of YtaklahcbeldbhaaGreatDoorRows.lean that lists a variable, with what it lists TIED to the program's text (the seventh form; the later family's looks); each row that meets fmt, with fmt's text TOLD by the authors' own Lean function (tested against real Go, not proved from fmt's source: count such statements apart). THE CARD IS WHAT COUNTS. Prove the row's statement (the work); the ties are given (YtaklahcbeldbhaaGreatDoorTie.lean); close each card by the builder's one call (the guide's Derived/Test/ToyasCard.lean, 'card_holds'). Laid BY PROGRAM, IN A SANDBOX (cutbox-door.mjs). By AI agents, Wed Nov 11 2026. No macro, syntax, notation, axiom, sorry.
-/
import Derived.Test.YtaklahcbeldbhaaGreatDoorRows
import GoSem.ClaimSeven
namespace Go.Proofs.YtaklahcbeldbhaaGreatDoor
namespace Rows

/-- THE TIED CARD OF 'rubriclaw22.PathPrint'. -/
def pathPrintCard : Claim7 := { stood := { row := pathPrintRow, standIns := [], harness := (true, "2c1ccf198d55cf78f3aa48466142030df9f3c7c9ae37d4211037c50f21e88557"), looks := false }, kinds := [], alts := [], laidByText := true, laidKinds := [.data, .pinned], laidTests := true, laidLooks := .later }
def PathPrintCardSaid : Prop := Claim7.holds Tryz.pinned (.plain (OpenSpec.ofChange pathPrintSpec)) pathPrintCard

/-- THE TIED CARD OF 'rubriclaw22.PathRead'. -/
def pathReadCard : Claim7 := { stood := { row := pathReadRow, standIns := [], harness := (true, "2c1ccf198d55cf78f3aa48466142030df9f3c7c9ae37d4211037c50f21e88557"), looks := false }, kinds := [], alts := [], laidByText := true, laidKinds := [.data, .pinned], laidTests := true, laidLooks := .later }
def PathReadCardSaid : Prop := Claim7.holds Tryz.pinned (.plain (OpenSpec.ofChange pathReadSpec)) pathReadCard

/-- THE SECOND FORM's CARD OF 'rubriclaw22.PathPrint'. -/
def pathPrintUptoCard : Claim7 := { stood := { row := pathPrintUptoRow, standIns := [], harness := (true, "2c1ccf198d55cf78f3aa48466142030df9f3c7c9ae37d4211037c50f21e88557"), looks := false }, kinds := [], alts := [], laidByText := true, laidKinds := [.data, .pinned], laidTests := true, laidLooks := .later }
def PathPrintUptoCardSaid : Prop := Claim7.holds Tryz.pinned (.plain (OpenSpec.upto pathPrintSpec)) pathPrintUptoCard

/-- THE SECOND FORM's CARD OF 'rubriclaw22.PathRead'. -/
def pathReadUptoCard : Claim7 := { stood := { row := pathReadUptoRow, standIns := [], harness := (true, "2c1ccf198d55cf78f3aa48466142030df9f3c7c9ae37d4211037c50f21e88557"), looks := false }, kinds := [], alts := [], laidByText := true, laidKinds := [.data, .pinned], laidTests := true, laidLooks := .later }
def PathReadUptoCardSaid : Prop := Claim7.holds Tryz.pinned (.plain (OpenSpec.upto pathReadSpec)) pathReadUptoCard
end Rows
end Go.Proofs.YtaklahcbeldbhaaGreatDoor
