/-
  DERIVED. GIVEN WITH THE SEED: THE CARDS: each row of YtlkfbblapimhoaaDoorRows.lean that lists a variable, with what it lists TIED to the program's text (the seventh form; the later family's looks); each row that meets fmt, with fmt's text TOLD by the authors' own Lean function (tested against real Go, not proved from fmt's source: count such statements apart). THE CARD IS WHAT COUNTS. Prove the row's statement (the work); the ties are given (YtlkfbblapimhoaaDoorTie.lean); close each card by the builder's one call (the guide's Derived/Test/ToyasCard.lean, 'card_holds'). Laid BY PROGRAM, IN A SANDBOX (cutbox-door.mjs). By AI agents, Wed Nov 11 2026. No macro, syntax, notation, axiom, sorry.
-/
import Derived.Test.YtlkfbblapimhoaaDoorRows
import GoSem.ClaimSeven
namespace Go.Proofs.YtlkfbblapimhoaaDoor
namespace Rows

/-- THE TIED CARD OF 'sewershedlaw41.RulesSimpler'. -/
def rulesSimplerCard : Claim7 := { stood := { row := rulesSimplerRow, standIns := [], harness := (true, "88b41780ecc95b33fa3d9354759bbc45c08f2a5f34fd624a320a5cecb8257ee2"), looks := true }, kinds := [], alts := [], laidByText := true, laidKinds := [.data, .data, .data, .sentinel, .sentinel], laidTests := true, laidLooks := .later }
def RulesSimplerCardSaid : Prop := Claim7.holds Tryd.pinned (.plain (OpenSpec.ofChange rulesSimplerSpec)) rulesSimplerCard

/-- THE TIED CARD OF 'sewershedlaw41.RulesFires'. -/
def rulesFiresCard : Claim7 := { stood := { row := rulesFiresRow, standIns := [], harness := (true, "88b41780ecc95b33fa3d9354759bbc45c08f2a5f34fd624a320a5cecb8257ee2"), looks := true }, kinds := [], alts := [], laidByText := true, laidKinds := [.data, .data, .data, .sentinel, .sentinel], laidTests := true, laidLooks := .later }
def RulesFiresCardSaid : Prop := Claim7.holds Tryd.pinned (.plain (OpenSpec.ofChange rulesFiresSpec)) rulesFiresCard

/-- THE TIED CARD OF 'sewershedlaw41.RulesMore'. -/
def rulesMoreCard : Claim7 := { stood := { row := rulesMoreRow, standIns := [], harness := (true, "88b41780ecc95b33fa3d9354759bbc45c08f2a5f34fd624a320a5cecb8257ee2"), looks := true }, kinds := [], alts := [], laidByText := true, laidKinds := [.data, .data, .data, .sentinel, .sentinel], laidTests := true, laidLooks := .later }
def RulesMoreCardSaid : Prop := Claim7.holds Tryd.pinned (.plain (OpenSpec.ofChange rulesMoreSpec)) rulesMoreCard

/-- THE TIED CARD OF 'sewershedlaw41.RulesBack'. -/
def rulesBackCard : Claim7 := { stood := { row := rulesBackRow, standIns := [], harness := (true, "88b41780ecc95b33fa3d9354759bbc45c08f2a5f34fd624a320a5cecb8257ee2"), looks := true }, kinds := [], alts := [], laidByText := true, laidKinds := [.data, .data, .data, .sentinel, .sentinel], laidTests := true, laidLooks := .later }
def RulesBackCardSaid : Prop := Claim7.holds Tryd.pinned (.plain (OpenSpec.ofChange rulesBackSpec)) rulesBackCard

/-- THE SECOND FORM's CARD OF 'sewershedlaw41.RulesSimpler'. -/
def rulesSimplerUptoCard : Claim7 := { stood := { row := rulesSimplerUptoRow, standIns := [], harness := (true, "88b41780ecc95b33fa3d9354759bbc45c08f2a5f34fd624a320a5cecb8257ee2"), looks := true }, kinds := [], alts := [], laidByText := true, laidKinds := [.data, .data, .data, .sentinel, .sentinel], laidTests := true, laidLooks := .later }
def RulesSimplerUptoCardSaid : Prop := Claim7.holds Tryd.pinned (.plain (OpenSpec.upto rulesSimplerSpec)) rulesSimplerUptoCard

/-- THE SECOND FORM's CARD OF 'sewershedlaw41.RulesFires'. -/
def rulesFiresUptoCard : Claim7 := { stood := { row := rulesFiresUptoRow, standIns := [], harness := (true, "88b41780ecc95b33fa3d9354759bbc45c08f2a5f34fd624a320a5cecb8257ee2"), looks := true }, kinds := [], alts := [], laidByText := true, laidKinds := [.data, .data, .data, .sentinel, .sentinel], laidTests := true, laidLooks := .later }
def RulesFiresUptoCardSaid : Prop := Claim7.holds Tryd.pinned (.plain (OpenSpec.upto rulesFiresSpec)) rulesFiresUptoCard

/-- THE SECOND FORM's CARD OF 'sewershedlaw41.RulesMore'. -/
def rulesMoreUptoCard : Claim7 := { stood := { row := rulesMoreUptoRow, standIns := [], harness := (true, "88b41780ecc95b33fa3d9354759bbc45c08f2a5f34fd624a320a5cecb8257ee2"), looks := true }, kinds := [], alts := [], laidByText := true, laidKinds := [.data, .data, .data, .sentinel, .sentinel], laidTests := true, laidLooks := .later }
def RulesMoreUptoCardSaid : Prop := Claim7.holds Tryd.pinned (.plain (OpenSpec.upto rulesMoreSpec)) rulesMoreUptoCard

/-- THE SECOND FORM's CARD OF 'sewershedlaw41.RulesBack'. -/
def rulesBackUptoCard : Claim7 := { stood := { row := rulesBackUptoRow, standIns := [], harness := (true, "88b41780ecc95b33fa3d9354759bbc45c08f2a5f34fd624a320a5cecb8257ee2"), looks := true }, kinds := [], alts := [], laidByText := true, laidKinds := [.data, .data, .data, .sentinel, .sentinel], laidTests := true, laidLooks := .later }
def RulesBackUptoCardSaid : Prop := Claim7.holds Tryd.pinned (.plain (OpenSpec.upto rulesBackSpec)) rulesBackUptoCard
end Rows
end Go.Proofs.YtlkfbblapimhoaaDoor
