/- slices.SortFunc as a contract of the lift: the kit's shelf's whole contract over a row of the call's own, under a comparison that has a contract of the lift. -/
import Derived.Test.YtnhmhcobpbilhaaGreatDoorLP
import Derived.Shelf.SlSortCmp.NoneTotal
namespace Go.Proofs.YtnhmhcobpbilhaaGreatDoor
set_option linter.unusedVariables false
set_option linter.unusedSectionVars false
set_option linter.unusedSimpArgs false
open Go.RowKit Go.Shelf Go.Sort
section
variable {U:Type} {El:U→Type} {P:Program} {X:Ctx U El} {S S0:Nat→Prop} {ρ:Rho} {w w0:World} [DecidableEq U] [Drw]
variable {a:Act} {st:St U El} {B:Bd} {d:Nat} {r:Fin U El}
def AV.val:AV U El→Value
  | .bool b => .bool b
  | .int k n => .int k n
  | .str s => .string ⟨s.toArray⟩
  | _=>undef
end
end Go.Proofs.YtnhmhcobpbilhaaGreatDoor
