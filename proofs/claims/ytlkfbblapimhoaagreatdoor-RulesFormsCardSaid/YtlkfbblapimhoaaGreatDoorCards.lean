/-
  DERIVED. GIVEN WITH THE SEED: THE CARDS: each row of YtlkfbblapimhoaaGreatDoorRows.lean that lists a variable, with what it lists TIED to the program's text (the seventh form; the later family's looks); each row that meets fmt, with fmt's text TOLD by the authors' own Lean function (tested against real Go, not proved from fmt's source: count such statements apart). THE CARD IS WHAT COUNTS. Prove the row's statement (the work); the ties are given (YtlkfbblapimhoaaGreatDoorTie.lean); close each card by the builder's one call (the guide's Derived/Test/ToyasCard.lean, 'card_holds'). Laid BY PROGRAM, IN A SANDBOX (cutbox-door.mjs). By AI agents, Wed Nov 11 2026. No macro, syntax, notation, axiom, sorry.
-/
import Derived.Test.YtlkfbblapimhoaaGreatDoorRows
import GoSem.ClaimSeven
namespace Go.Proofs.YtlkfbblapimhoaaGreatDoor
namespace Rows

/-- THE TIED CARD OF 'sewershedlaw41.RulesForms'. -/
def rulesFormsCard : Claim7 := { stood := { row := rulesFormsRow, standIns := [], harness := (true, "71bc5218e2188cf4e2c43f3dee66cf351f41eb86a9ce3ac25994e80b75f41de6"), looks := true }, kinds := [], alts := [], laidByText := true, laidKinds := [.data, .data, .data, .sentinel, .sentinel], laidTests := true, laidLooks := .later }
def RulesFormsCardSaid : Prop := Claim7.holds Tryz.pinned (.plain (OpenSpec.ofChange rulesFormsSpec)) rulesFormsCard

/-- THE TIED CARD OF 'sewershedlaw41.RulesSets'. -/
def rulesSetsCard : Claim7 := { stood := { row := rulesSetsRow, standIns := [], harness := (true, "71bc5218e2188cf4e2c43f3dee66cf351f41eb86a9ce3ac25994e80b75f41de6"), looks := true }, kinds := [], alts := [], laidByText := true, laidKinds := [.data, .data, .data, .sentinel, .sentinel], laidTests := true, laidLooks := .later }
def RulesSetsCardSaid : Prop := Claim7.holds Tryz.pinned (.plain (OpenSpec.ofChange rulesSetsSpec)) rulesSetsCard

/-- THE TIED CARD OF 'sewershedlaw41.RulesNames'. -/
def rulesNamesCard : Claim7 := { stood := { row := rulesNamesRow, standIns := [], harness := (true, "71bc5218e2188cf4e2c43f3dee66cf351f41eb86a9ce3ac25994e80b75f41de6"), looks := true }, kinds := [], alts := [], laidByText := true, laidKinds := [.data, .data, .data, .sentinel, .sentinel], laidTests := true, laidLooks := .later }
def RulesNamesCardSaid : Prop := Claim7.holds Tryz.pinned (.plain (OpenSpec.ofChange rulesNamesSpec)) rulesNamesCard

/-- THE TIED CARD OF 'sewershedlaw41.RulesOrder'. -/
def rulesOrderCard : Claim7 := { stood := { row := rulesOrderRow, standIns := [], harness := (true, "71bc5218e2188cf4e2c43f3dee66cf351f41eb86a9ce3ac25994e80b75f41de6"), looks := true }, kinds := [], alts := [], laidByText := true, laidKinds := [.data, .data, .data, .sentinel, .sentinel], laidTests := true, laidLooks := .later }
def RulesOrderCardSaid : Prop := Claim7.holds Tryz.pinned (.plain (OpenSpec.ofChange rulesOrderSpec)) rulesOrderCard

/-- THE SECOND FORM's CARD OF 'sewershedlaw41.RulesForms'. -/
def rulesFormsUptoCard : Claim7 := { stood := { row := rulesFormsUptoRow, standIns := [], harness := (true, "71bc5218e2188cf4e2c43f3dee66cf351f41eb86a9ce3ac25994e80b75f41de6"), looks := true }, kinds := [], alts := [], laidByText := true, laidKinds := [.data, .data, .data, .sentinel, .sentinel], laidTests := true, laidLooks := .later }
def RulesFormsUptoCardSaid : Prop := Claim7.holds Tryz.pinned (.plain (OpenSpec.upto rulesFormsSpec)) rulesFormsUptoCard

/-- THE SECOND FORM's CARD OF 'sewershedlaw41.RulesSets'. -/
def rulesSetsUptoCard : Claim7 := { stood := { row := rulesSetsUptoRow, standIns := [], harness := (true, "71bc5218e2188cf4e2c43f3dee66cf351f41eb86a9ce3ac25994e80b75f41de6"), looks := true }, kinds := [], alts := [], laidByText := true, laidKinds := [.data, .data, .data, .sentinel, .sentinel], laidTests := true, laidLooks := .later }
def RulesSetsUptoCardSaid : Prop := Claim7.holds Tryz.pinned (.plain (OpenSpec.upto rulesSetsSpec)) rulesSetsUptoCard

/-- THE SECOND FORM's CARD OF 'sewershedlaw41.RulesNames'. -/
def rulesNamesUptoCard : Claim7 := { stood := { row := rulesNamesUptoRow, standIns := [], harness := (true, "71bc5218e2188cf4e2c43f3dee66cf351f41eb86a9ce3ac25994e80b75f41de6"), looks := true }, kinds := [], alts := [], laidByText := true, laidKinds := [.data, .data, .data, .sentinel, .sentinel], laidTests := true, laidLooks := .later }
def RulesNamesUptoCardSaid : Prop := Claim7.holds Tryz.pinned (.plain (OpenSpec.upto rulesNamesSpec)) rulesNamesUptoCard

/-- THE SECOND FORM's CARD OF 'sewershedlaw41.RulesOrder'. -/
def rulesOrderUptoCard : Claim7 := { stood := { row := rulesOrderUptoRow, standIns := [], harness := (true, "71bc5218e2188cf4e2c43f3dee66cf351f41eb86a9ce3ac25994e80b75f41de6"), looks := true }, kinds := [], alts := [], laidByText := true, laidKinds := [.data, .data, .data, .sentinel, .sentinel], laidTests := true, laidLooks := .later }
def RulesOrderUptoCardSaid : Prop := Claim7.holds Tryz.pinned (.plain (OpenSpec.upto rulesOrderSpec)) rulesOrderUptoCard
end Rows
end Go.Proofs.YtlkfbblapimhoaaGreatDoor
