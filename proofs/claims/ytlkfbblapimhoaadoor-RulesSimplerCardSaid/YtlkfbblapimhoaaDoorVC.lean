/- The document's answer: what is given, what holds, what fires; the law RulesFires. -/
import Derived.Test.YtlkfbblapimhoaaDoorVB
import Derived.Test.YtlkfbblapimhoaaDoorAW
namespace Go.Proofs.YtlkfbblapimhoaaDoor
set_option linter.unusedSectionVars false
set_option linter.unusedSimpArgs false
set_option linter.unusedVariables false
set_option maxRecDepth 100000
end Go.Proofs.YtlkfbblapimhoaaDoor
