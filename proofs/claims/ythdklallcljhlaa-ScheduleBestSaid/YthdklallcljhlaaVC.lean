/- Which work is ready; orders of works. -/
import Derived.Test.YthdklallcljhlaaVB
namespace Go.Proofs.Ythdklallcljhlaa
set_option linter.unusedSectionVars false
set_option linter.unusedSimpArgs false
set_option linter.unusedVariables false
set_option maxRecDepth 100000
theorem okO_len {l:List Work} (h:okO l=true):l.length≤90000∧∀ w∈l,w.wa.length≤90000∧∀ a∈w.wa,inb a l.length=true:=by
  unfold okO at h
  simp only [Bool.and_eq_true] at h
  refine ⟨nleI h.1,fun w hw => ?_⟩
  have:=List.all_eq_true.1 h.2 w hw
  simp only [Bool.and_eq_true] at this
  exact ⟨nleI this.1,List.all_eq_true.1 this.2⟩
end Go.Proofs.Ythdklallcljhlaa
