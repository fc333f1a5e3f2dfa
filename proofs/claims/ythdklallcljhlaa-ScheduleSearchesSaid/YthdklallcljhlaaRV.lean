/- slices.Reverse at []int: the kit's shelf's contract laid at this program (by lay.py), and as a contract of the lift. -/
import Derived.Test.YthdklallcljhlaaSI
import Derived.Shelf.Slices.Reverse
namespace Go.Proofs.Ythdklallcljhlaa
set_option linter.unusedSectionVars false
set_option linter.unusedSimpArgs false
set_option linter.unusedVariables false
open Go.Shelf Go.Sort Go.RowKit
end Go.Proofs.Ythdklallcljhlaa
