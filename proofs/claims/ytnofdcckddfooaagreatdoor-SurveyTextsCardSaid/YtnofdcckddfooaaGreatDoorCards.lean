/-
  DERIVED. GIVEN WITH THE SEED: THE CARDS: each row of YtnofdcckddfooaaGreatDoorRows.lean that lists a variable, with what it lists TIED to the program's text (the seventh form; the later family's looks); each row that meets fmt, with fmt's text TOLD by the authors' own Lean function (tested against real Go, not proved from fmt's source: count such statements apart). THE CARD IS WHAT COUNTS. Prove the row's statement (the work); the ties are given (YtnofdcckddfooaaGreatDoorTie.lean); close each card by the builder's one call (the guide's Derived/Test/ToyasCard.lean, 'card_holds'). Laid BY PROGRAM, IN A SANDBOX (cutbox-door.mjs). By AI agents, Wed Nov 11 2026. No macro, syntax, notation, axiom, sorry.
-/
import Derived.Test.YtnofdcckddfooaaGreatDoorRows
import GoSem.ClaimSeven
namespace Go.Proofs.YtnofdcckddfooaaGreatDoor
namespace Rows

/-- THE TIED CARD OF 'sewershedlaw16.SurveyTexts'. -/
def surveyTextsCard : Claim7 := { stood := { row := surveyTextsRow, standIns := [], harness := (true, "6cc6d0723dc84b5eb626f2fd808ef2c92819317cb9024f2866863cc8be93961b"), looks := true }, kinds := [], alts := [], laidByText := true, laidKinds := [.data, .data, .data, .data, .sentinel, .sentinel, .pinned], laidTests := true, laidLooks := .later }
def SurveyTextsCardSaid : Prop := Claim7.holds Tryz.pinned (.plain (OpenSpec.ofChange surveyTextsSpec)) surveyTextsCard

/-- THE TIED CARD OF 'sewershedlaw16.SurveyFlats'. -/
def surveyFlatsCard : Claim7 := { stood := { row := surveyFlatsRow, standIns := [], harness := (true, "6cc6d0723dc84b5eb626f2fd808ef2c92819317cb9024f2866863cc8be93961b"), looks := true }, kinds := [], alts := [], laidByText := true, laidKinds := [.data, .data, .data, .data, .sentinel, .sentinel, .pinned], laidTests := true, laidLooks := .later }
def SurveyFlatsCardSaid : Prop := Claim7.holds Tryz.pinned (.plain (OpenSpec.ofChange surveyFlatsSpec)) surveyFlatsCard

/-- THE TIED CARD OF 'sewershedlaw16.SurveyTolerant'. -/
def surveyTolerantCard : Claim7 := { stood := { row := surveyTolerantRow, standIns := [], harness := (true, "6cc6d0723dc84b5eb626f2fd808ef2c92819317cb9024f2866863cc8be93961b"), looks := true }, kinds := [], alts := [], laidByText := true, laidKinds := [.data, .data, .data, .data, .sentinel, .sentinel, .pinned], laidTests := true, laidLooks := .later }
def SurveyTolerantCardSaid : Prop := Claim7.holds Tryz.pinned (.plain (OpenSpec.ofChange surveyTolerantSpec)) surveyTolerantCard

/-- THE TIED CARD OF 'sewershedlaw16.SurveyForms'. -/
def surveyFormsCard : Claim7 := { stood := { row := surveyFormsRow, standIns := [], harness := (true, "6cc6d0723dc84b5eb626f2fd808ef2c92819317cb9024f2866863cc8be93961b"), looks := true }, kinds := [], alts := [], laidByText := true, laidKinds := [.data, .data, .data, .data, .sentinel, .sentinel, .pinned], laidTests := true, laidLooks := .later }
def SurveyFormsCardSaid : Prop := Claim7.holds Tryz.pinned (.plain (OpenSpec.ofChange surveyFormsSpec)) surveyFormsCard

/-- THE TIED CARD OF 'sewershedlaw16.SurveyNames'. -/
def surveyNamesCard : Claim7 := { stood := { row := surveyNamesRow, standIns := [], harness := (true, "6cc6d0723dc84b5eb626f2fd808ef2c92819317cb9024f2866863cc8be93961b"), looks := true }, kinds := [], alts := [], laidByText := true, laidKinds := [.data, .data, .data, .data, .sentinel, .sentinel, .pinned], laidTests := true, laidLooks := .later }
def SurveyNamesCardSaid : Prop := Claim7.holds Tryz.pinned (.plain (OpenSpec.ofChange surveyNamesSpec)) surveyNamesCard

/-- THE SECOND FORM's CARD OF 'sewershedlaw16.SurveyTexts'. -/
def surveyTextsUptoCard : Claim7 := { stood := { row := surveyTextsUptoRow, standIns := [], harness := (true, "6cc6d0723dc84b5eb626f2fd808ef2c92819317cb9024f2866863cc8be93961b"), looks := true }, kinds := [], alts := [], laidByText := true, laidKinds := [.data, .data, .data, .data, .sentinel, .sentinel, .pinned], laidTests := true, laidLooks := .later }
def SurveyTextsUptoCardSaid : Prop := Claim7.holds Tryz.pinned (.plain (OpenSpec.upto surveyTextsSpec)) surveyTextsUptoCard

/-- THE SECOND FORM's CARD OF 'sewershedlaw16.SurveyFlats'. -/
def surveyFlatsUptoCard : Claim7 := { stood := { row := surveyFlatsUptoRow, standIns := [], harness := (true, "6cc6d0723dc84b5eb626f2fd808ef2c92819317cb9024f2866863cc8be93961b"), looks := true }, kinds := [], alts := [], laidByText := true, laidKinds := [.data, .data, .data, .data, .sentinel, .sentinel, .pinned], laidTests := true, laidLooks := .later }
def SurveyFlatsUptoCardSaid : Prop := Claim7.holds Tryz.pinned (.plain (OpenSpec.upto surveyFlatsSpec)) surveyFlatsUptoCard

/-- THE SECOND FORM's CARD OF 'sewershedlaw16.SurveyTolerant'. -/
def surveyTolerantUptoCard : Claim7 := { stood := { row := surveyTolerantUptoRow, standIns := [], harness := (true, "6cc6d0723dc84b5eb626f2fd808ef2c92819317cb9024f2866863cc8be93961b"), looks := true }, kinds := [], alts := [], laidByText := true, laidKinds := [.data, .data, .data, .data, .sentinel, .sentinel, .pinned], laidTests := true, laidLooks := .later }
def SurveyTolerantUptoCardSaid : Prop := Claim7.holds Tryz.pinned (.plain (OpenSpec.upto surveyTolerantSpec)) surveyTolerantUptoCard

/-- THE SECOND FORM's CARD OF 'sewershedlaw16.SurveyForms'. -/
def surveyFormsUptoCard : Claim7 := { stood := { row := surveyFormsUptoRow, standIns := [], harness := (true, "6cc6d0723dc84b5eb626f2fd808ef2c92819317cb9024f2866863cc8be93961b"), looks := true }, kinds := [], alts := [], laidByText := true, laidKinds := [.data, .data, .data, .data, .sentinel, .sentinel, .pinned], laidTests := true, laidLooks := .later }
def SurveyFormsUptoCardSaid : Prop := Claim7.holds Tryz.pinned (.plain (OpenSpec.upto surveyFormsSpec)) surveyFormsUptoCard

/-- THE SECOND FORM's CARD OF 'sewershedlaw16.SurveyNames'. -/
def surveyNamesUptoCard : Claim7 := { stood := { row := surveyNamesUptoRow, standIns := [], harness := (true, "6cc6d0723dc84b5eb626f2fd808ef2c92819317cb9024f2866863cc8be93961b"), looks := true }, kinds := [], alts := [], laidByText := true, laidKinds := [.data, .data, .data, .data, .sentinel, .sentinel, .pinned], laidTests := true, laidLooks := .later }
def SurveyNamesUptoCardSaid : Prop := Claim7.holds Tryz.pinned (.plain (OpenSpec.upto surveyNamesSpec)) surveyNamesUptoCard
end Rows
end Go.Proofs.YtnofdcckddfooaaGreatDoor
