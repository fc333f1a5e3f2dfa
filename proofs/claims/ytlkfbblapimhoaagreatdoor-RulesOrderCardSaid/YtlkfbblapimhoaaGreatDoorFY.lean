/- The lengths of a network's lists. -/
import Derived.Test.YtlkfbblapimhoaaGreatDoorVL
import Derived.Test.YtlkfbblapimhoaaGreatDoorFR
namespace Go.Proofs.YtlkfbblapimhoaaGreatDoor
theorem lvN_of {y:El .net} (h:zok .net y):lvN y=true:=List.all_eq_true.2 fun x hx=>nleT (h.2.2.2 x hx).1
end Go.Proofs.YtlkfbblapimhoaaGreatDoor
