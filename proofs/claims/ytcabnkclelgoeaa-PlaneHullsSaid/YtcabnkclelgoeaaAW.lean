/- The example of the chapter: awake, by the whole run of its functions in their places. -/
import Derived.Test.YtcabnkclelgoeaaVA
namespace Go.Proofs.Ytcabnkclelgoeaa
set_option linter.unusedSectionVars false
set_option linter.unusedSimpArgs false
set_option linter.unusedVariables false
set_option maxRecDepth 100000
noncomputable def fx:List (FuncId×FnX):=[(9,⟨(Try.f9.body).getD .skip,75,[],[0],[],false⟩),
  (38,⟨(Try.f38.body).getD .skip,8,[(4,23)],[8],[],false⟩),
  (28,⟨(Try.f28.body).getD .skip,35,[],[2,3],[],true⟩),
  (21,⟨(Try.f21.body).getD .skip,42,[(4,44)],[42,5],[],false⟩),
  (10,⟨(Try.f10.body).getD .skip,63,[],[8,9],[],false⟩),
  (11,⟨(Try.f11.body).getD .skip,61,[(8,29)],[61,9],[],false⟩),
  (50,⟨(Try.f50.body).getD .skip,15,[],[2],[],true⟩),
  (42,⟨(Try.f42.body).getD .skip,30,[],[6],[],false⟩),
  (39,⟨(Try.f39.body).getD .skip,6,[],[2],[],true⟩),
  (46,⟨(Try.f46.body).getD .skip,28,[],[4],[],false⟩),
  (48,⟨(Try.f48.body).getD .skip,15,[(2,69)],[15],[],false⟩),
  (47,⟨(Try.f47.body).getD .skip,49,[],[2,3],[],false⟩),
  (40,⟨(Try.f40.body).getD .skip,33,[],[8],[],false⟩),
  (41,⟨(Try.f41.body).getD .skip,52,[],[6],[],false⟩),
  (43,⟨(Try.f43.body).getD .skip,48,[(4,29)],[48,5],[],false⟩),
  (35,⟨(Try.f35.body).getD .skip,9,[],[4],[],true⟩),
  (61,⟨(Try.f61.body).getD .skip,6,[],[2],[],false⟩),
  (71,⟨(Try.f71.body).getD .skip,10,[],[2],[],false⟩),
  (70,⟨(Try.f70.body).getD .skip,19,[(6,87)],[19],[],false⟩),
  (69,⟨(Try.f69.body).getD .skip,56,[(2,69)],[56,3],[],false⟩),
  (66,⟨(Try.f66.body).getD .skip,21,[],[2],[],false⟩),
  (67,⟨(Try.f67.body).getD .skip,37,[(2,87)],[37],[],false⟩),
  (68,⟨(Try.f68.body).getD .skip,51,[],[4,5],[],false⟩),
  (62,⟨(Try.f62.body).getD .skip,10,[],[2],[],false⟩),
  (63,⟨(Try.f63.body).getD .skip,12,[],[4],[],false⟩),
  (59,⟨(Try.f59.body).getD .skip,19,[],[4],[],true⟩)]
theorem fx_ok:∀ p∈fx,FnXOk Try.prog p.1 p.2:=by
  intro p hp
  simp only [fx,List.mem_cons,List.not_mem_nil,or_false] at hp
  rcases hp with rfl | rfl | rfl | rfl | rfl | rfl | rfl | rfl | rfl | rfl | rfl | rfl | rfl | rfl | rfl | rfl | rfl | rfl | rfl | rfl | rfl | rfl | rfl | rfl | rfl | rfl
  · exact ⟨Try.call9,_,Try.func9,rfl,rfl,by kernel_rfl⟩
  · exact ⟨Try.call38,_,Try.func38,rfl,rfl,by kernel_rfl⟩
  · exact ⟨Try.call28,_,Try.func28,rfl,rfl,by kernel_rfl⟩
  · exact ⟨Try.call21,_,Try.func21,rfl,rfl,by kernel_rfl⟩
  · exact ⟨Try.call10,_,Try.func10,rfl,rfl,by kernel_rfl⟩
  · exact ⟨Try.call11,_,Try.func11,rfl,rfl,by kernel_rfl⟩
  · exact ⟨Try.call50,_,Try.func50,rfl,rfl,by kernel_rfl⟩
  · exact ⟨Try.call42,_,Try.func42,rfl,rfl,by kernel_rfl⟩
  · exact ⟨Try.call39,_,Try.func39,rfl,rfl,by kernel_rfl⟩
  · exact ⟨Try.call46,_,Try.func46,rfl,rfl,by kernel_rfl⟩
  · exact ⟨Try.call48,_,Try.func48,rfl,rfl,by kernel_rfl⟩
  · exact ⟨Try.call47,_,Try.func47,rfl,rfl,by kernel_rfl⟩
  · exact ⟨Try.call40,_,Try.func40,rfl,rfl,by kernel_rfl⟩
  · exact ⟨Try.call41,_,Try.func41,rfl,rfl,by kernel_rfl⟩
  · exact ⟨Try.call43,_,Try.func43,rfl,rfl,by kernel_rfl⟩
  · exact ⟨Try.call35,_,Try.func35,rfl,rfl,by kernel_rfl⟩
  · exact ⟨Try.call61,_,Try.func61,rfl,rfl,by kernel_rfl⟩
  · exact ⟨Try.call71,_,Try.func71,rfl,rfl,by kernel_rfl⟩
  · exact ⟨Try.call70,_,Try.func70,rfl,rfl,by kernel_rfl⟩
  · exact ⟨Try.call69,_,Try.func69,rfl,rfl,by kernel_rfl⟩
  · exact ⟨Try.call66,_,Try.func66,rfl,rfl,by kernel_rfl⟩
  · exact ⟨Try.call67,_,Try.func67,rfl,rfl,by kernel_rfl⟩
  · exact ⟨Try.call68,_,Try.func68,rfl,rfl,by kernel_rfl⟩
  · exact ⟨Try.call62,_,Try.func62,rfl,rfl,by kernel_rfl⟩
  · exact ⟨Try.call63,_,Try.func63,rfl,rfl,by kernel_rfl⟩
  · exact ⟨Try.call59,_,Try.func59,rfl,rfl,by kernel_rfl⟩
def quiets:List (Nat×Nat):=[]
theorem quiets_ok:∀ p∈quiets,QuietD Try.prog p.1 p.2:=fun p hp=>by cases hp
noncomputable def bsp:List (FuncId×Sp U El):=[(17,valid.sp)]
theorem bsp_ok:∀ p∈bsp,SpOk Try.prog E p.1 p.2:=spC valid.spOk spN
noncomputable def X0:Ctx U El:=⟨E,tds,zeros,eqs,specOf bsp,1000,0,dspecOf [],fun _=>none⟩
theorem ok0:CtxOk Try.prog X0:=ctxOk tab bsp_ok dpN
namespace awake
theorem run:((inl X0 quiets fx 40 9).bind fun sp=>sp [] [] fun v h=>some (v,h))=some (.bool true,[]):=by kernel_rfl
theorem spec:CallSpec Try.prog E 9 [] (.bool true) [] :=
  inl_spec quiets_ok ok0 (fun n g sp h=>by cases h) fx_ok (fun _ _ _ _ g sp h=>by cases h) run rfl
noncomputable def sp:Sp U El:=fun args k=>match args with
  | []=>k (.bool true) []
  | _=>none
theorem spOk:SpOk Try.prog E 9 sp where
  det:=fun vs=>by
    unfold sp
    split
    · exact ⟨some (_,_),fun _=>rfl⟩
    · exact ⟨none,fun _=>rfl⟩
  ok:=fun vs k r h=>by
    unfold sp at h
    split at h
    · exact ⟨_,_,spec,h⟩
    · cases h
end awake
end Go.Proofs.Ytcabnkclelgoeaa
