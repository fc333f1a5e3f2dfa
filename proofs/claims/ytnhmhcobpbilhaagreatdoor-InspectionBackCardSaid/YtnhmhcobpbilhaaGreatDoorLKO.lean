/- Kinds of keys of maps: plain ones, and structs of plain cells. -/
import Derived.Test.YtnhmhcobpbilhaaGreatDoorLP
import Derived.WideKeyRuns
namespace Go.Proofs.YtnhmhcobpbilhaaGreatDoor
set_option linter.unusedVariables false
set_option linter.unusedSectionVars false
set_option linter.unusedSimpArgs false
open Go.RowKit
section
variable {U:Type} {El:U→Type} {P:Program} {E:Univ U El} {S:Nat→Prop} {ρ:Rho} {w:World} [Drw]
end
end Go.Proofs.YtnhmhcobpbilhaaGreatDoor
