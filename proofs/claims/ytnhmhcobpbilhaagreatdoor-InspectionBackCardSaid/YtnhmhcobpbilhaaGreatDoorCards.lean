/-
  DERIVED. GIVEN WITH THE SEED: THE CARDS: each row of YtnhmhcobpbilhaaGreatDoorRows.lean that lists a variable, with what it lists TIED to the program's text (the seventh form; the later family's looks); each row that meets fmt, with fmt's text TOLD by the authors' own Lean function (tested against real Go, not proved from fmt's source: count such statements apart). THE CARD IS WHAT COUNTS. Prove the row's statement (the work); the ties are given (YtnhmhcobpbilhaaGreatDoorTie.lean); close each card by the builder's one call (the guide's Derived/Test/ToyasCard.lean, 'card_holds'). Laid BY PROGRAM, IN A SANDBOX (cutbox-door.mjs). By AI agents, Wed Nov 11 2026. No macro, syntax, notation, axiom, sorry.
-/
import Derived.Test.YtnhmhcobpbilhaaGreatDoorRows
import GoSem.ClaimSeven
namespace Go.Proofs.YtnhmhcobpbilhaaGreatDoor
namespace Rows

/-- THE TIED CARD OF 'sewershedlaw49.InspectionForms'. -/
def inspectionFormsCard : Claim7 := { stood := { row := inspectionFormsRow, standIns := [], harness := (true, "d34b45b9b488be5ea367bdde82c06ee062755ba9b01e2c2275acd6bf94a6f5f3"), looks := true }, kinds := [], alts := [], laidByText := true, laidKinds := [.data, .data, .data, .data, .sentinel, .sentinel, .pinned], laidTests := true, laidLooks := .later }
def InspectionFormsCardSaid : Prop := Claim7.holds Tryz.pinned (.plain (OpenSpec.ofChange inspectionFormsSpec)) inspectionFormsCard

/-- THE TIED CARD OF 'sewershedlaw49.InspectionBack'. -/
def inspectionBackCard : Claim7 := { stood := { row := inspectionBackRow, standIns := [], harness := (true, "d34b45b9b488be5ea367bdde82c06ee062755ba9b01e2c2275acd6bf94a6f5f3"), looks := true }, kinds := [], alts := [], laidByText := true, laidKinds := [.data, .data, .data, .data, .sentinel, .sentinel, .pinned], laidTests := true, laidLooks := .later }
def InspectionBackCardSaid : Prop := Claim7.holds Tryz.pinned (.plain (OpenSpec.ofChange inspectionBackSpec)) inspectionBackCard

/-- THE SECOND FORM's CARD OF 'sewershedlaw49.InspectionForms'. -/
def inspectionFormsUptoCard : Claim7 := { stood := { row := inspectionFormsUptoRow, standIns := [], harness := (true, "d34b45b9b488be5ea367bdde82c06ee062755ba9b01e2c2275acd6bf94a6f5f3"), looks := true }, kinds := [], alts := [], laidByText := true, laidKinds := [.data, .data, .data, .data, .sentinel, .sentinel, .pinned], laidTests := true, laidLooks := .later }
def InspectionFormsUptoCardSaid : Prop := Claim7.holds Tryz.pinned (.plain (OpenSpec.upto inspectionFormsSpec)) inspectionFormsUptoCard

/-- THE SECOND FORM's CARD OF 'sewershedlaw49.InspectionBack'. -/
def inspectionBackUptoCard : Claim7 := { stood := { row := inspectionBackUptoRow, standIns := [], harness := (true, "d34b45b9b488be5ea367bdde82c06ee062755ba9b01e2c2275acd6bf94a6f5f3"), looks := true }, kinds := [], alts := [], laidByText := true, laidKinds := [.data, .data, .data, .data, .sentinel, .sentinel, .pinned], laidTests := true, laidLooks := .later }
def InspectionBackUptoCardSaid : Prop := Claim7.holds Tryz.pinned (.plain (OpenSpec.upto inspectionBackSpec)) inspectionBackUptoCard
end Rows
end Go.Proofs.YtnhmhcobpbilhaaGreatDoor
