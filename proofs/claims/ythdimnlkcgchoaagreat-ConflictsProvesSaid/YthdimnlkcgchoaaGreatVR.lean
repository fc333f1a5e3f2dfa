/- The document's marks and corners. -/
import Derived.Test.YthdimnlkcgchoaaGreatVP
namespace Go.Proofs.YthdimnlkcgchoaaGreat
set_option linter.unusedSectionVars false
set_option linter.unusedSimpArgs false
set_option linter.unusedVariables false
set_option maxRecDepth 100000
end Go.Proofs.YthdimnlkcgchoaaGreat
