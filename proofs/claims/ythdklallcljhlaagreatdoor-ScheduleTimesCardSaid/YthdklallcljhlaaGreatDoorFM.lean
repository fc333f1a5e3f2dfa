/- The document's digits, by hand: a contract of the lift. -/
import Derived.Test.YthdklallcljhlaaGreatDoorIT
import Derived.Deep.LoopGhost
import Derived.Laws.IdiomStrings
import Derived.Lib.ItoaLen
import Derived.Test.YthdklallcljhlaaGreatDoorCA
import Derived.Shelf.SlSortCmp.SmallK
namespace Go.Proofs.YthdklallcljhlaaGreatDoor
set_option linter.unusedSectionVars false
set_option linter.unusedSimpArgs false
set_option linter.unusedVariables false
open Go.RowKit
end Go.Proofs.YthdklallcljhlaaGreatDoor
