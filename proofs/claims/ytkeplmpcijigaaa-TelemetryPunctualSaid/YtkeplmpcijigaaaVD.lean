/- The feed of the document. -/
import Derived.Test.YtkeplmpcijigaaaVC
namespace Go.Proofs.Ytkeplmpcijigaaa
variable [Drw]
set_option linter.unusedSectionVars false
set_option linter.unusedSimpArgs false
set_option linter.unusedVariables false
set_option maxRecDepth 100000
noncomputable def rmarkZ (f:RF):Int:=bif (Int.ofNat (List.length f.gt)) == (0:Int) then -137438953472 else IntKind.wrap .i64 ((List.getD f.gt (f.gt.length - 1) d_msg).ar - f.dl)
end Go.Proofs.Ytkeplmpcijigaaa
