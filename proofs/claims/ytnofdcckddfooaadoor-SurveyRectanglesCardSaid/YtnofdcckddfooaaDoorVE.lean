/- Grids, the document's; the law SurveyGrids. -/
import Derived.Test.YtnofdcckddfooaaDoorVC
import Derived.Test.YtnofdcckddfooaaDoorAW
namespace Go.Proofs.YtnofdcckddfooaaDoor
set_option linter.unusedSectionVars false
set_option linter.unusedSimpArgs false
set_option linter.unusedVariables false
set_option maxRecDepth 100000
theorem gridG_len (C:Nat):∀ m i,(gridG C i m).length=2 * C * m:=by
  intro m
  induction m with
  | zero=>intro i; rfl
  | succ m ih =>
    intro i
    have:gridG C i (m+1)=rowG C i 0 C++gridG C (i+1) m:=rfl
    rw [this,List.length_append,ih,rowG_len,Nat.mul_add,Nat.mul_one,Nat.add_comm]
end Go.Proofs.YtnofdcckddfooaaDoor
