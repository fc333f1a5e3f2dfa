/- Contracts of calls that are handed blocks, as a step of the caller's run: what is handed is found by the names in the arguments. -/
import Derived.Test.YtnhmhcobpbilhaaGreatDoorLT
namespace Go.Proofs.YtnhmhcobpbilhaaGreatDoor
set_option linter.unusedVariables false
set_option linter.unusedSectionVars false
set_option linter.unusedSimpArgs false
open Go.RowKit
section
variable {U:Type} {El:U→Type} {P:Program} {X:Ctx U El} [DecidableEq U] [Drw]
theorem det_chkM {b:Bool} {f:(AV U El→Heap U El→Option (Fin U El))→Option (Fin U El)} (h:∃ oo:Option (AV U El×Heap U El),∀ k,f k=oo.bind fun p=>k p.1 p.2):∃ oo:Option (AV U El×Heap U El),∀ k,chk b (f k)=oo.bind fun p=>k p.1 p.2:=by
  cases b
  · exact ⟨none,fun _=>rfl⟩
  · exact h
theorem spN {E:Univ U El}:∀ p∈([]:List (FuncId×Sp U El)),SpOk P E p.1 p.2:=fun p h=>by cases h
theorem spC {E:Univ U El} {f:FuncId} {sp:Sp U El} {l:List (FuncId×Sp U El)} (h:SpOk P E f sp) (hl:∀ p∈l,SpOk P E p.1 p.2):∀ p∈(f,sp) :: l,SpOk P E p.1 p.2:=fun p hp=>by
  rcases List.mem_cons.1 hp with rfl | hp
  · exact h
  · exact hl p hp
theorem dpN {E:Univ U El}:∀ p∈([]:List (FuncId×MSp U El)),DSpOk P E p.1 p.2:=fun p h=>by cases h
theorem mpN:∀ p∈([]:List (FuncId×SpM U El)),SpMOk P X p.1 p.2:=fun p h=>by cases h
theorem mpC {f:FuncId} {sp:SpM U El} {l:List (FuncId×SpM U El)} (h:SpMOk P X f sp) (hl:∀ p∈l,SpMOk P X p.1 p.2):∀ p∈(f,sp) :: l,SpMOk P X p.1 p.2:=fun p hp=>by
  rcases List.mem_cons.1 hp with rfl | hp
  · exact h
  · exact hl p hp
theorem det_c (b:Bool) (v:AV U El) (h:Heap U El):∃ oo:Option (AV U El×Heap U El),∀ k:AV U El→Heap U El→Option (Fin U El),chk b (k v h)=oo.bind fun p=>k p.1 p.2:=by
  cases b
  · exact ⟨none,fun _=>rfl⟩
  · exact ⟨some (v,h),fun _=>rfl⟩
end
end Go.Proofs.YtnhmhcobpbilhaaGreatDoor
