/- The document's reader of inspections. -/
import Derived.Test.YtnhmhcobpbilhaaGreatDoorRL
namespace Go.Proofs.YtnhmhcobpbilhaaGreatDoor
set_option linter.unusedSectionVars false
set_option linter.unusedSimpArgs false
set_option linter.unusedVariables false
set_option maxRecDepth 100000
noncomputable def finR (acc:List Df):List Df×Int×Int:=bif validB 16777216 acc then (acc,0,0) else ([],0,1)
noncomputable def parK:List (List UInt8)→Int→List Df→List Df×Int×Int
  | [],_,acc=>finR acc
  | [x],n,acc=>bif x == [] then finR acc else ([],n,7)
  | x :: y :: l, n, acc => match linO x with
    | none=>([],n,7)
    | some d=>parK (y :: l) (n+1) (acc++[d])
noncomputable def parR (s:List UInt8):List Df×Int×Int:=parK (splitL s [10]) 1 []
noncomputable def parL (s:List UInt8):List Df:=(parR s).1
noncomputable def parN (s:List UInt8):Int:=(parR s).2.1
noncomputable def parE (s:List UInt8):Int:=(parR s).2.2
noncomputable def parP (s:List UInt8):Pos:=bif ilt 0 (parN s) then ⟨parN s,1⟩ else ⟨0,0⟩
theorem par_none {s:List UInt8} (h:(10:UInt8) ∉ s) (n:Int) (acc:List Df):parK (splitL s [10]) n acc=bif s == [] then finR acc else ([],n,7):=by
  rw [splitL_none 10 s h]
  rfl
theorem par_cons {x r:List UInt8} (h:(10:UInt8) ∉ x) (n:Int) (acc:List Df):parK (splitL (x++10 :: r) [10]) n acc=(match linO x with
    | none=>([],n,7)
    | some d=>parK (splitL r [10]) (n+1) (acc++[d])):=by
  rw [splitL_cons 10 x r h]
  cases hp:splitL r [10] with
  | nil=>exact absurd hp (split_ne 10 r)
  | cons y l=>rfl
end Go.Proofs.YtnhmhcobpbilhaaGreatDoor
