/- A call that is handed blocks of the caller's own: its abstract run from these blocks, and what it is to the caller. -/
import Derived.Test.YtnhmhcobpbilhaaGreatDoorLP
namespace Go.Proofs.YtnhmhcobpbilhaaGreatDoor
set_option linter.unusedVariables false
set_option linter.unusedSectionVars false
set_option linter.unusedSimpArgs false
open Go.RowKit
section
variable {U:Type} {El:U→Type} {P:Program} {X:Ctx U El} {S S0 S':Nat→Prop} {ρ ρ':Rho} {w w0 w':World} [DecidableEq U] [Drw]
variable {a:Act} {st:St U El} {B:Bd} {d:Nat} {r:Fin U El}
end
end Go.Proofs.YtnhmhcobpbilhaaGreatDoor
