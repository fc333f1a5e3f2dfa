/-
  DERIVED. GIVEN WITH THE SEED: THE CARDS: each row of YtnhmhcobpbilhaaDoorRows.lean that lists a variable, with what it lists TIED to the program's text (the seventh form; the later family's looks); each row that meets fmt, with fmt's text TOLD by the authors' own Lean function (tested against real Go, not proved from fmt's source: count such statements apart). THE CARD IS WHAT COUNTS. Prove the row's statement (the work); the ties are given (YtnhmhcobpbilhaaDoorTie.lean); close each card by the builder's one call (the guide's Derived/Test/ToyasCard.lean, 'card_holds'). Laid BY PROGRAM, IN A SANDBOX (cutbox-door.mjs). By AI agents, Wed Nov 11 2026. No macro, syntax, notation, axiom, sorry.
-/
import Derived.Test.YtnhmhcobpbilhaaDoorRows
import GoSem.ClaimSeven
namespace Go.Proofs.YtnhmhcobpbilhaaDoor
namespace Rows

/-- THE TIED CARD OF 'sewershedlaw49.InspectionScores'. -/
def inspectionScoresCard : Claim7 := { stood := { row := inspectionScoresRow, standIns := [], harness := (true, "a8382195419609ba26c7a60d6d12a9f9933078700a8a38281166c120479f0ede"), looks := false }, kinds := [], alts := [], laidByText := true, laidKinds := [.data, .data, .data], laidTests := true, laidLooks := .later }
def InspectionScoresCardSaid : Prop := Claim7.holds Tryd.pinned (.plain (OpenSpec.ofChange inspectionScoresSpec)) inspectionScoresCard

/-- THE TIED CARD OF 'sewershedlaw49.InspectionWindow'. -/
def inspectionWindowCard : Claim7 := { stood := { row := inspectionWindowRow, standIns := [], harness := (true, "a8382195419609ba26c7a60d6d12a9f9933078700a8a38281166c120479f0ede"), looks := false }, kinds := [], alts := [], laidByText := true, laidKinds := [.data, .data, .data], laidTests := true, laidLooks := .later }
def InspectionWindowCardSaid : Prop := Claim7.holds Tryd.pinned (.plain (OpenSpec.ofChange inspectionWindowSpec)) inspectionWindowCard

/-- THE TIED CARD OF 'sewershedlaw49.InspectionMatched'. -/
def inspectionMatchedCard : Claim7 := { stood := { row := inspectionMatchedRow, standIns := [], harness := (true, "a8382195419609ba26c7a60d6d12a9f9933078700a8a38281166c120479f0ede"), looks := false }, kinds := [], alts := [], laidByText := true, laidKinds := [.data, .data, .data], laidTests := true, laidLooks := .later }
def InspectionMatchedCardSaid : Prop := Claim7.holds Tryd.pinned (.plain (OpenSpec.ofChange inspectionMatchedSpec)) inspectionMatchedCard

/-- THE TIED CARD OF 'sewershedlaw49.InspectionWorse'. -/
def inspectionWorseCard : Claim7 := { stood := { row := inspectionWorseRow, standIns := [], harness := (true, "a8382195419609ba26c7a60d6d12a9f9933078700a8a38281166c120479f0ede"), looks := false }, kinds := [], alts := [], laidByText := true, laidKinds := [.data, .data, .data], laidTests := true, laidLooks := .later }
def InspectionWorseCardSaid : Prop := Claim7.holds Tryd.pinned (.plain (OpenSpec.ofChange inspectionWorseSpec)) inspectionWorseCard

/-- THE TIED CARD OF 'sewershedlaw49.InspectionPlaces'. -/
def inspectionPlacesCard : Claim7 := { stood := { row := inspectionPlacesRow, standIns := [], harness := (true, "a8382195419609ba26c7a60d6d12a9f9933078700a8a38281166c120479f0ede"), looks := false }, kinds := [], alts := [], laidByText := true, laidKinds := [.data, .data, .data], laidTests := true, laidLooks := .later }
def InspectionPlacesCardSaid : Prop := Claim7.holds Tryd.pinned (.plain (OpenSpec.ofChange inspectionPlacesSpec)) inspectionPlacesCard

/-- THE TIED CARD OF 'sewershedlaw49.InspectionMerged'. -/
def inspectionMergedCard : Claim7 := { stood := { row := inspectionMergedRow, standIns := [], harness := (true, "a8382195419609ba26c7a60d6d12a9f9933078700a8a38281166c120479f0ede"), looks := false }, kinds := [], alts := [], laidByText := true, laidKinds := [.data, .data, .data], laidTests := true, laidLooks := .later }
def InspectionMergedCardSaid : Prop := Claim7.holds Tryd.pinned (.plain (OpenSpec.ofChange inspectionMergedSpec)) inspectionMergedCard

/-- THE TIED CARD OF 'sewershedlaw49.InspectionLists'. -/
def inspectionListsCard : Claim7 := { stood := { row := inspectionListsRow, standIns := [], harness := (true, "a8382195419609ba26c7a60d6d12a9f9933078700a8a38281166c120479f0ede"), looks := false }, kinds := [], alts := [], laidByText := true, laidKinds := [.data, .data, .data], laidTests := true, laidLooks := .later }
def InspectionListsCardSaid : Prop := Claim7.holds Tryd.pinned (.plain (OpenSpec.ofChange inspectionListsSpec)) inspectionListsCard

/-- THE SECOND FORM's CARD OF 'sewershedlaw49.InspectionScores'. -/
def inspectionScoresUptoCard : Claim7 := { stood := { row := inspectionScoresUptoRow, standIns := [], harness := (true, "a8382195419609ba26c7a60d6d12a9f9933078700a8a38281166c120479f0ede"), looks := false }, kinds := [], alts := [], laidByText := true, laidKinds := [.data, .data, .data], laidTests := true, laidLooks := .later }
def InspectionScoresUptoCardSaid : Prop := Claim7.holds Tryd.pinned (.plain (OpenSpec.upto inspectionScoresSpec)) inspectionScoresUptoCard

/-- THE SECOND FORM's CARD OF 'sewershedlaw49.InspectionWindow'. -/
def inspectionWindowUptoCard : Claim7 := { stood := { row := inspectionWindowUptoRow, standIns := [], harness := (true, "a8382195419609ba26c7a60d6d12a9f9933078700a8a38281166c120479f0ede"), looks := false }, kinds := [], alts := [], laidByText := true, laidKinds := [.data, .data, .data], laidTests := true, laidLooks := .later }
def InspectionWindowUptoCardSaid : Prop := Claim7.holds Tryd.pinned (.plain (OpenSpec.upto inspectionWindowSpec)) inspectionWindowUptoCard

/-- THE SECOND FORM's CARD OF 'sewershedlaw49.InspectionMatched'. -/
def inspectionMatchedUptoCard : Claim7 := { stood := { row := inspectionMatchedUptoRow, standIns := [], harness := (true, "a8382195419609ba26c7a60d6d12a9f9933078700a8a38281166c120479f0ede"), looks := false }, kinds := [], alts := [], laidByText := true, laidKinds := [.data, .data, .data], laidTests := true, laidLooks := .later }
def InspectionMatchedUptoCardSaid : Prop := Claim7.holds Tryd.pinned (.plain (OpenSpec.upto inspectionMatchedSpec)) inspectionMatchedUptoCard

/-- THE SECOND FORM's CARD OF 'sewershedlaw49.InspectionWorse'. -/
def inspectionWorseUptoCard : Claim7 := { stood := { row := inspectionWorseUptoRow, standIns := [], harness := (true, "a8382195419609ba26c7a60d6d12a9f9933078700a8a38281166c120479f0ede"), looks := false }, kinds := [], alts := [], laidByText := true, laidKinds := [.data, .data, .data], laidTests := true, laidLooks := .later }
def InspectionWorseUptoCardSaid : Prop := Claim7.holds Tryd.pinned (.plain (OpenSpec.upto inspectionWorseSpec)) inspectionWorseUptoCard

/-- THE SECOND FORM's CARD OF 'sewershedlaw49.InspectionPlaces'. -/
def inspectionPlacesUptoCard : Claim7 := { stood := { row := inspectionPlacesUptoRow, standIns := [], harness := (true, "a8382195419609ba26c7a60d6d12a9f9933078700a8a38281166c120479f0ede"), looks := false }, kinds := [], alts := [], laidByText := true, laidKinds := [.data, .data, .data], laidTests := true, laidLooks := .later }
def InspectionPlacesUptoCardSaid : Prop := Claim7.holds Tryd.pinned (.plain (OpenSpec.upto inspectionPlacesSpec)) inspectionPlacesUptoCard

/-- THE SECOND FORM's CARD OF 'sewershedlaw49.InspectionMerged'. -/
def inspectionMergedUptoCard : Claim7 := { stood := { row := inspectionMergedUptoRow, standIns := [], harness := (true, "a8382195419609ba26c7a60d6d12a9f9933078700a8a38281166c120479f0ede"), looks := false }, kinds := [], alts := [], laidByText := true, laidKinds := [.data, .data, .data], laidTests := true, laidLooks := .later }
def InspectionMergedUptoCardSaid : Prop := Claim7.holds Tryd.pinned (.plain (OpenSpec.upto inspectionMergedSpec)) inspectionMergedUptoCard

/-- THE SECOND FORM's CARD OF 'sewershedlaw49.InspectionLists'. -/
def inspectionListsUptoCard : Claim7 := { stood := { row := inspectionListsUptoRow, standIns := [], harness := (true, "a8382195419609ba26c7a60d6d12a9f9933078700a8a38281166c120479f0ede"), looks := false }, kinds := [], alts := [], laidByText := true, laidKinds := [.data, .data, .data], laidTests := true, laidLooks := .later }
def InspectionListsUptoCardSaid : Prop := Claim7.holds Tryd.pinned (.plain (OpenSpec.upto inspectionListsSpec)) inspectionListsUptoCard
end Rows
end Go.Proofs.YtnhmhcobpbilhaaDoor
