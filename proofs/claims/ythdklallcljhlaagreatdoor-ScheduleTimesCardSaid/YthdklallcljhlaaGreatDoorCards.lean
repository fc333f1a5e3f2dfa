/-
  DERIVED. GIVEN WITH THE SEED: THE CARDS: each row of YthdklallcljhlaaGreatDoorRows.lean that lists a variable, with what it lists TIED to the program's text (the seventh form; the later family's looks); each row that meets fmt, with fmt's text TOLD by the authors' own Lean function (tested against real Go, not proved from fmt's source: count such statements apart). THE CARD IS WHAT COUNTS. Prove the row's statement (the work); the ties are given (YthdklallcljhlaaGreatDoorTie.lean); close each card by the builder's one call (the guide's Derived/Test/ToyasCard.lean, 'card_holds'). Laid BY PROGRAM, IN A SANDBOX (cutbox-door.mjs). By AI agents, Wed Nov 11 2026. No macro, syntax, notation, axiom, sorry.
-/
import Derived.Test.YthdklallcljhlaaGreatDoorRows
import GoSem.ClaimSeven
namespace Go.Proofs.YthdklallcljhlaaGreatDoor
namespace Rows

/-- THE TIED CARD OF 'sewershedlaw51.ScheduleAnswers'. -/
def scheduleAnswersCard : Claim7 := { stood := { row := scheduleAnswersRow, standIns := [], harness := (true, "f800c214899134c03f92f59e471c58bcd93997c6e2c23941fdeca2d93f9c67ba"), looks := false }, kinds := [], alts := [], laidByText := true, laidKinds := [.data, .data, .data], laidTests := true, laidLooks := .later }
def ScheduleAnswersCardSaid : Prop := Claim7.holds Tryz.pinned (.plain (OpenSpec.ofChange scheduleAnswersSpec)) scheduleAnswersCard

/-- THE TIED CARD OF 'sewershedlaw51.ScheduleTimes'. -/
def scheduleTimesCard : Claim7 := { stood := { row := scheduleTimesRow, standIns := [], harness := (true, "f800c214899134c03f92f59e471c58bcd93997c6e2c23941fdeca2d93f9c67ba"), looks := false }, kinds := [], alts := [], laidByText := true, laidKinds := [.data, .data, .data, .data, .pinned], laidTests := true, laidLooks := .later }
def ScheduleTimesCardSaid : Prop := Claim7.holds Tryz.pinned (.plain (OpenSpec.ofChange scheduleTimesSpec)) scheduleTimesCard

/-- THE SECOND FORM's CARD OF 'sewershedlaw51.ScheduleAnswers'. -/
def scheduleAnswersUptoCard : Claim7 := { stood := { row := scheduleAnswersUptoRow, standIns := [], harness := (true, "f800c214899134c03f92f59e471c58bcd93997c6e2c23941fdeca2d93f9c67ba"), looks := false }, kinds := [], alts := [], laidByText := true, laidKinds := [.data, .data, .data], laidTests := true, laidLooks := .later }
def ScheduleAnswersUptoCardSaid : Prop := Claim7.holds Tryz.pinned (.plain (OpenSpec.upto scheduleAnswersSpec)) scheduleAnswersUptoCard

/-- THE SECOND FORM's CARD OF 'sewershedlaw51.ScheduleTimes'. -/
def scheduleTimesUptoCard : Claim7 := { stood := { row := scheduleTimesUptoRow, standIns := [], harness := (true, "f800c214899134c03f92f59e471c58bcd93997c6e2c23941fdeca2d93f9c67ba"), looks := false }, kinds := [], alts := [], laidByText := true, laidKinds := [.data, .data, .data, .data, .pinned], laidTests := true, laidLooks := .later }
def ScheduleTimesUptoCardSaid : Prop := Claim7.holds Tryz.pinned (.plain (OpenSpec.upto scheduleTimesSpec)) scheduleTimesUptoCard
end Rows
end Go.Proofs.YthdklallcljhlaaGreatDoor
