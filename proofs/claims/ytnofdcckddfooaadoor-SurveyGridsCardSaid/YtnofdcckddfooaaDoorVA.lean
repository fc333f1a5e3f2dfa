/- The mesh: sides, points, turns, triangles. -/
import Derived.Test.YtnofdcckddfooaaDoorV
import Derived.Test.YtnofdcckddfooaaDoorPL
namespace Go.Proofs.YtnofdcckddfooaaDoor
set_option linter.unusedSectionVars false
set_option linter.unusedSimpArgs false
set_option linter.unusedVariables false
set_option maxRecDepth 100000
noncomputable def fQ (b:Bool):R:=some (.bool b,[])
noncomputable def oU (z:Int):R:=some (.int .i64 z,[])
end Go.Proofs.YtnofdcckddfooaaDoor
