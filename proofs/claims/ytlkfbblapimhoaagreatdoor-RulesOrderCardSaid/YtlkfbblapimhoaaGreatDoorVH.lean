/- Programs that fit a network. -/
import Derived.Test.YtlkfbblapimhoaaGreatDoorVG
namespace Go.Proofs.YtlkfbblapimhoaaGreatDoor
set_option linter.unusedSectionVars false
set_option linter.unusedSimpArgs false
set_option linter.unusedVariables false
set_option maxRecDepth 100000
noncomputable def namesL (n:Net):List (List UInt8):=n.nds.map Node.nn
noncomputable def hasN (n:Net) (s:List UInt8):Bool:=List.any n.nds (isNode s)
noncomputable def knownR (n:Net) (r:Rule):Bool := !(ilt (linkZ n r.rl) 0)&&List.all r.rw (fun c=>hasN n c.cn)
noncomputable def knownB (l:List Rule) (n:Net):Bool:=List.all l (knownR n)
theorem ilt_ile0 (z:Int):ilt z 0 = !(ile 0 z):=by rw [not_ile]
end Go.Proofs.YtlkfbblapimhoaaGreatDoor
