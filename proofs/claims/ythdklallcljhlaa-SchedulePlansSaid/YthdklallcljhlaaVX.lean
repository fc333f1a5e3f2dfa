/- The law ScheduleFaultless: its own run comes to true. -/
import Derived.Test.YthdklallcljhlaaVU
import Derived.Test.YthdklallcljhlaaAW
namespace Go.Proofs.Ythdklallcljhlaa
set_option linter.unusedSectionVars false
set_option linter.unusedSimpArgs false
set_option linter.unusedVariables false
set_option maxRecDepth 100000
theorem asc_up {a b:Int} (hab:a≤b) {l:List Int} (h:ascB a l=true):ascB b l=true:=by
  refine allI_iff.2 fun j x hx => ?_
  have h1:=allI_iff.1 h j x hx
  simp only [ascX,Bool.not_eq_true',Bool.or_eq_false_iff] at h1 ⊢
  refine ⟨h1.1,?_,h1.2.2⟩
  have h2:=h1.2.1
  have:=ileN h2
  exact ileF (by omega)
theorem goodW_up {n a b:Int} (hab:a≤b):∀ {l seen:List Work},goodW n a seen l=true→goodW n b seen l=true:=by
  intro l
  induction l with
  | nil=>intro seen _; rfl
  | cons x l ih =>
    intro seen h
    simp only [goodW,Bool.and_eq_true] at h ⊢
    refine ⟨?_,ih h.2⟩
    have h1:=h.1
    simp only [wk,Bool.and_eq_true] at h1 ⊢
    obtain ⟨a1,a2,a3,a4,a5,a6⟩:=h1
    exact ⟨a1,a2,a3,a4,asc_up hab a5,a6⟩
theorem valid_up {l:List Work} {crews:Int} (h:validB l crews=true):validB l 12=true:=by
  have hV:=valid_of h
  have hl:=hV.len
  simp only [validB,Bool.and_eq_true,Bool.not_eq_true']
  exact ⟨⟨by rfl,by rfl⟩,iltF (by simp; omega),goodW_up hV.cr.2 hV.good,hV.topo⟩
end Go.Proofs.Ythdklallcljhlaa
