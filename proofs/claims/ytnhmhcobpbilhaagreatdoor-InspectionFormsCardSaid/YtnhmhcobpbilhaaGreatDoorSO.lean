/- slices.SortFunc over defects, by the order of compare: the kit's shelf laid at this program (its numbers by the shelf's own tool), and the contract of the lift. -/
import Derived.Test.YtnhmhcobpbilhaaGreatDoorVC
import Derived.Test.YtnhmhcobpbilhaaGreatDoorLS
import Derived.Shelf.SlLaysF0
namespace Go.Proofs.YtnhmhcobpbilhaaGreatDoor
variable [Drw]
set_option linter.unusedSectionVars false
set_option linter.unusedSimpArgs false
set_option linter.unusedVariables false
open Go.Shelf Go.Sort
noncomputable instance:Inhabited (El .df):=⟨d_df⟩
end Go.Proofs.YtnhmhcobpbilhaaGreatDoor
