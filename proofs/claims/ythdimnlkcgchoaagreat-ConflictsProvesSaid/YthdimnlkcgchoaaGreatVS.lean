/- Complete and Covered of the document; the law ConflictsCorners by its own run. -/
import Derived.Test.YthdimnlkcgchoaaGreatVR
namespace Go.Proofs.YthdimnlkcgchoaaGreat
set_option linter.unusedSectionVars false
set_option linter.unusedSimpArgs false
set_option linter.unusedVariables false
set_option maxRecDepth 100000
theorem large_ok {l:List Rule} {n:Net} (h:largeB l n=false):okN n=true:=by
  simp only [largeB,Bool.or_eq_false_iff] at h
  obtain ⟨h1,h2,_,_,_,h3,_⟩:=h
  have a:=iltN h1; have b:=iltN h2
  simp only [okN,Bool.and_eq_true]
  refine ⟨nleT (by simp at a; omega),nleT (by simp at b; omega),List.all_eq_true.2 fun x hx => ?_⟩
  have:=List.any_eq_false.1 h3 x hx
  simp only [bigLink,Bool.or_eq_true,not_or] at this
  have:=this.1
  exact nleT (by simp [ilt] at this; omega)
end Go.Proofs.YthdimnlkcgchoaaGreat
