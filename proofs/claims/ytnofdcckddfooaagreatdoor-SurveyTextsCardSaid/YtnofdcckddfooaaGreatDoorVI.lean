/- Areas, neighbours and borders of surfaces: what the code computes. -/
import Derived.Test.YtnofdcckddfooaaGreatDoorVB
namespace Go.Proofs.YtnofdcckddfooaaGreatDoor
set_option linter.unusedSectionVars false
set_option linter.unusedSimpArgs false
set_option linter.unusedVariables false
set_option maxRecDepth 100000
noncomputable def argE (m:Mesh):Int:=bif validM m then 0 else 1
theorem cleanF_in (m:Mesh) (far:List Bool):∀ (l:List Face) mp sd,cleanF m far mp sd l=true→∀ f∈l,faceIn m f=true:=by
  intro l
  induction l with
  | nil=>intro _ _ _ f hf; cases hf
  | cons a l ih =>
    intro mp sd h f hf
    simp only [cleanF,Bool.and_eq_true] at h
    rcases List.mem_cons.1 hf with rfl | hf
    · exact check.face_in (far:=far) (by simpa using h.1)
    · exact ih _ _ h.2.2.2.2 f hf
theorem valid_in {m:Mesh} (h:validM m=true):∀ f∈m.mf,faceIn m f=true:=by
  simp only [validM,cleanM,Bool.and_eq_true] at h
  exact cleanF_in m _ m.mf _ _ h.2.2
theorem valid_small {m:Mesh} (h:validM m=true):m.ms.length≤2000∧m.mf.length≤4000:=by
  simp only [validM,smallB,Bool.and_eq_true] at h
  have h1:=ileI h.1.1; have h2:=ileI h.1.2
  simp at h1 h2
  omega
end Go.Proofs.YtnofdcckddfooaaGreatDoor
