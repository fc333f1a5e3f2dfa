/-
  DERIVED. GIVEN WITH THE SEED: THE CARDS: each row of YtkeplmpcijigaaaGreatDoorRows.lean that lists a variable, with what it lists TIED to the program's text (the seventh form; the later family's looks); each row that meets fmt, with fmt's text TOLD by the authors' own Lean function (tested against real Go, not proved from fmt's source: count such statements apart). THE CARD IS WHAT COUNTS. Prove the row's statement (the work); the ties are given (YtkeplmpcijigaaaGreatDoorTie.lean); close each card by the builder's one call (the guide's Derived/Test/ToyasCard.lean, 'card_holds'). Laid BY PROGRAM, IN A SANDBOX (cutbox-door.mjs). By AI agents, Wed Nov 11 2026. No macro, syntax, notation, axiom, sorry.
-/
import Derived.Test.YtkeplmpcijigaaaGreatDoorRows
import GoSem.ClaimSeven
namespace Go.Proofs.YtkeplmpcijigaaaGreatDoor
namespace Rows

/-- THE TIED CARD OF 'sewershedlaw52.TelemetryForms'. -/
def telemetryFormsCard : Claim7 := { stood := { row := telemetryFormsRow, standIns := [], harness := (true, "0bbc27ee81cb9737c412bcc5bdaef8067b0a13c0144fecd89f970b034957fd2e"), looks := true }, kinds := [], alts := [], laidByText := true, laidKinds := [.data, .data, .data, .data, .sentinel, .sentinel, .pinned], laidTests := true, laidLooks := .later }
def TelemetryFormsCardSaid : Prop := Claim7.holds Tryz.pinned (.plain (OpenSpec.ofChange telemetryFormsSpec)) telemetryFormsCard

/-- THE SECOND FORM's CARD OF 'sewershedlaw52.TelemetryForms'. -/
def telemetryFormsUptoCard : Claim7 := { stood := { row := telemetryFormsUptoRow, standIns := [], harness := (true, "0bbc27ee81cb9737c412bcc5bdaef8067b0a13c0144fecd89f970b034957fd2e"), looks := true }, kinds := [], alts := [], laidByText := true, laidKinds := [.data, .data, .data, .data, .sentinel, .sentinel, .pinned], laidTests := true, laidLooks := .later }
def TelemetryFormsUptoCardSaid : Prop := Claim7.holds Tryz.pinned (.plain (OpenSpec.upto telemetryFormsSpec)) telemetryFormsUptoCard
end Rows
end Go.Proofs.YtkeplmpcijigaaaGreatDoor
