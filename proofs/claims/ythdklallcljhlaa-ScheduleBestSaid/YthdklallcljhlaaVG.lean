/- The first fault of a slot, of the document. -/
import Derived.Test.YthdklallcljhlaaVF
namespace Go.Proofs.Ythdklallcljhlaa
set_option linter.unusedSectionVars false
set_option linter.unusedSimpArgs false
set_option linter.unusedVariables false
set_option maxRecDepth 100000
set_option maxHeartbeats 2000000
end Go.Proofs.Ythdklallcljhlaa
