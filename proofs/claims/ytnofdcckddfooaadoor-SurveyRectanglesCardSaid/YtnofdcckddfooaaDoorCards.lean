/-
  DERIVED. GIVEN WITH THE SEED: THE CARDS: each row of YtnofdcckddfooaaDoorRows.lean that lists a variable, with what it lists TIED to the program's text (the seventh form; the later family's looks); each row that meets fmt, with fmt's text TOLD by the authors' own Lean function (tested against real Go, not proved from fmt's source: count such statements apart). THE CARD IS WHAT COUNTS. Prove the row's statement (the work); the ties are given (YtnofdcckddfooaaDoorTie.lean); close each card by the builder's one call (the guide's Derived/Test/ToyasCard.lean, 'card_holds'). Laid BY PROGRAM, IN A SANDBOX (cutbox-door.mjs). By AI agents, Wed Nov 11 2026. No macro, syntax, notation, axiom, sorry.
-/
import Derived.Test.YtnofdcckddfooaaDoorRows
import GoSem.ClaimSeven
namespace Go.Proofs.YtnofdcckddfooaaDoor
namespace Rows

/-- THE TIED CARD OF 'sewershedlaw16.SurveyGrids'. -/
def surveyGridsCard : Claim7 := { stood := { row := surveyGridsRow, standIns := [], harness := (true, "ce6cdc9364f55141a6fc666f9d5398327aa458974d8b2fd3f7435f4662fbf1b9"), looks := true }, kinds := [], alts := [], laidByText := true, laidKinds := [.data, .data, .data, .data, .sentinel, .sentinel, .pinned], laidTests := true, laidLooks := .later }
def SurveyGridsCardSaid : Prop := Claim7.holds Tryd.pinned (.plain (OpenSpec.ofChange surveyGridsSpec)) surveyGridsCard

/-- THE TIED CARD OF 'sewershedlaw16.SurveyRectangles'. -/
def surveyRectanglesCard : Claim7 := { stood := { row := surveyRectanglesRow, standIns := [], harness := (true, "ce6cdc9364f55141a6fc666f9d5398327aa458974d8b2fd3f7435f4662fbf1b9"), looks := true }, kinds := [], alts := [], laidByText := true, laidKinds := [.data, .data, .data, .data, .sentinel, .sentinel, .pinned], laidTests := true, laidLooks := .later }
def SurveyRectanglesCardSaid : Prop := Claim7.holds Tryd.pinned (.plain (OpenSpec.ofChange surveyRectanglesSpec)) surveyRectanglesCard

/-- THE SECOND FORM's CARD OF 'sewershedlaw16.SurveyGrids'. -/
def surveyGridsUptoCard : Claim7 := { stood := { row := surveyGridsUptoRow, standIns := [], harness := (true, "ce6cdc9364f55141a6fc666f9d5398327aa458974d8b2fd3f7435f4662fbf1b9"), looks := true }, kinds := [], alts := [], laidByText := true, laidKinds := [.data, .data, .data, .data, .sentinel, .sentinel, .pinned], laidTests := true, laidLooks := .later }
def SurveyGridsUptoCardSaid : Prop := Claim7.holds Tryd.pinned (.plain (OpenSpec.upto surveyGridsSpec)) surveyGridsUptoCard

/-- THE SECOND FORM's CARD OF 'sewershedlaw16.SurveyRectangles'. -/
def surveyRectanglesUptoCard : Claim7 := { stood := { row := surveyRectanglesUptoRow, standIns := [], harness := (true, "ce6cdc9364f55141a6fc666f9d5398327aa458974d8b2fd3f7435f4662fbf1b9"), looks := true }, kinds := [], alts := [], laidByText := true, laidKinds := [.data, .data, .data, .data, .sentinel, .sentinel, .pinned], laidTests := true, laidLooks := .later }
def SurveyRectanglesUptoCardSaid : Prop := Claim7.holds Tryd.pinned (.plain (OpenSpec.upto surveyRectanglesSpec)) surveyRectanglesUptoCard
end Rows
end Go.Proofs.YtnofdcckddfooaaDoor
