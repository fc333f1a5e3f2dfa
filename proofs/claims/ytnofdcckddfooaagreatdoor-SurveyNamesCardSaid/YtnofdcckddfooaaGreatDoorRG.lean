/- A greater tolerance has more flat spots: the law SurveyTolerant's own run. -/
import Derived.Test.YtnofdcckddfooaaGreatDoorRE
import Derived.Test.YtnofdcckddfooaaGreatDoorRF
import Derived.Test.YtnofdcckddfooaaGreatDoorGW
namespace Go.Proofs.YtnofdcckddfooaaGreatDoor
set_option linter.unusedSectionVars false
set_option linter.unusedSimpArgs false
set_option linter.unusedVariables false
set_option maxRecDepth 100000
namespace rcopy
noncomputable def bd:Code:=(Tryz.f22.body).getD .skip
noncomputable def X:Ctx U El:=⟨E,tds,zeros,eqs,aN [],100000,12,aG [],fun _=>none⟩
noncomputable def nmR:Norm U:=⟨[],[12],[6,10],[],[],[],[]⟩
noncomputable def RR:af U El:=fun st=>bD X 12 [(2,25)] 12 st fun st=>aX nmR st (iw [12])
noncomputable def fr0 (m:Mesh):St U El:=⟨[(0,(.agg [(.lst .spot m.ms),(.lst .face m.mf)]))],[]⟩
noncomputable def sh0 (m:Mesh):R :=
  chk (nle ((List.length ([]:List Spot)+List.length m.ms) * 24) 140737488355328&&nle (List.length ([]:List Spot)+List.length m.ms) 9223372036854775807) (chk (nle ((List.length ([]:List Face)+List.length m.mf) * 32) 140737488355328&&nle (List.length ([]:List Face)+List.length m.mf) 9223372036854775807) (some ((.agg [(.ful 6),(.ful 10)]),[(6,(.rows .spot (([]:List Spot)++m.ms))),(10,(.rows .face (([]:List Face)++m.mf)))])))
theorem P0 (m):aj X (cdp [] bd) (.seq none .d (.seq none (.region [(3,3),(7,7),(9,2)]) .d)) (fr0 m) RR (fun _ _=>none) RR=sh0 m:=by kernel_rfl
noncomputable def f0 (m:Mesh):R:=sh0 m
theorem T0 (m):aj X bd (.seq none .d (.seq none (.region [(3,3),(7,7),(9,2)]) .d)) (fr0 m) RR (fun _ _=>none) RR=f0 m:=by
  refine (P0 m).trans ?_
  show _=sh0 m
  rfl
theorem run (m):n4 X bd (.seq none .d (.seq none (.region [(3,3),(7,7),(9,2)]) .d)) nmR [(2,25)] [12] [] [(.agg [(.lst .spot m.ms),(.lst .face m.mf)])]=f0 m:=T0 m
theorem f0_eq (m:Mesh) (h:ap m=true):f0 m=some (.agg [.ful 6,.ful 10],[(6,.rows .spot m.ms),(10,.rows .face m.mf)]):=by
  simp only [ap,Bool.and_eq_true] at h
  have h1:=hC h.1; have h2:=hC h.2
  show sh0 m=_
  unfold sh0
  rw [cq (show (List.length ([]:List Spot)+List.length m.ms) * 24≤140737488355328 by simp; omega),cq (show List.length ([]:List Spot)+List.length m.ms≤9223372036854775807 by simp; omega),cq (show (List.length ([]:List Face)+List.length m.mf) * 32≤140737488355328 by simp; omega),cq (show List.length ([]:List Face)+List.length m.mf≤9223372036854775807 by simp; omega)]
  rfl
theorem ok:CtxOk Tryz.prog X:=bc tab spN dpN
theorem okM:MOk Tryz.prog X:=fun g sp h=>by cases h
theorem spec (m:Mesh) (h:(ap m)=true):MCall Tryz.prog E 22 [(.agg [(.lst .spot m.ms),(.lst .face m.mf)])] [] (.agg [(.ful 6),(.ful 10)]) [(6,(.rows .spot (Mesh.ms m))),(10,(.rows .face (Mesh.mf m)))] :=
  eJ ok okM Tryz.func22 (by kernel_rfl) (by kernel_rfl) (by kernel_rfl) (by show 1≤12; decide) ((run m).trans (f0_eq m h))
noncomputable def sp:MSp U El:=fun args hs k=>match args,hs with
  | [.agg [.lst .spot m_ms,.lst .face m_mf]],[]=>chk true (chk (ap (⟨m_ms,m_mf⟩:Mesh)) (k (.agg [(.ful 6),(.ful 10)]) [(6,(.rows .spot (Mesh.ms (⟨m_ms,m_mf⟩:Mesh)))),(10,(.rows .face (Mesh.mf (⟨m_ms,m_mf⟩:Mesh))))]))
  | _,_=>none
theorem spOk:lU Tryz.prog E 22 sp:=⟨Tryz.call22,fun args hs k r h=>by
  unfold sp at h
  split at h
  · obtain ⟨_, hA⟩ := ae h
    obtain ⟨h1,hB⟩:=ae hA
    exact ⟨_,_,spec ⟨_,_⟩ h1,hB⟩
  · cases h⟩
theorem spDet:∀ args hs,∃ oo:Option (AV U El×az U El),∀ k,sp args hs k=oo.bind fun p=>k p.1 p.2:=fun args hs=>by
  unfold sp
  split
  · exact cN (cN ⟨some (_,_),fun _=>rfl⟩)
  · exact ⟨none,fun _=>rfl⟩
end rcopy
end Go.Proofs.YtnofdcckddfooaaGreatDoor
