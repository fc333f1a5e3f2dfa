/- slices.Grow of nil at []int, by hand: a contract of the lift. -/
import Derived.Test.YtnofdcckddfooaaGreatDoorV
import Derived.Test.YtnofdcckddfooaaGreatDoorLU
import Derived.WalkKit
import Derived.ProofKit
import Derived.Handy
import Derived.Lib.Builder
import Derived.Lib.Strings
import Derived.ChangeAt
import Derived.Deep.LoopGhost
import Derived.Deep.RegionLaw
import Derived.Lib.AppendZeros
import Derived.Lib.SliceRun
namespace Go.Proofs.YtnofdcckddfooaaGreatDoor
set_option linter.unusedSectionVars false
set_option linter.unusedSimpArgs false
set_option linter.unusedVariables false
open Go.ChangeShapes Go.WideShapes Go.ChangeAt Go.RowKit
end Go.Proofs.YtnofdcckddfooaaGreatDoor
