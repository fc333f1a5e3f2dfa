/- The example of the chapter: awake, by the whole run of its functions in their places. -/
import Derived.Test.YtnofdcckddfooaaDoorVA
import Derived.Test.YtnofdcckddfooaaDoorIT
import Derived.Test.YtnofdcckddfooaaDoorCS
import Derived.Test.YtnofdcckddfooaaDoorTL
namespace Go.Proofs.YtnofdcckddfooaaDoor
set_option linter.unusedSectionVars false
set_option linter.unusedSimpArgs false
set_option linter.unusedVariables false
set_option maxRecDepth 100000
noncomputable def fx:List (FuncId×FnX):=[(5,⟨(Tryd.f5.body).getD .skip,42,[],[0],[],false⟩),
  (6,⟨(Tryd.f6.body).getD .skip,136,[(8,27)],[136,9],[],true⟩),
  (12,⟨(Tryd.f12.body).getD .skip,47,[],[2,3],[],true⟩),
  (13,⟨(Tryd.f13.body).getD .skip,43,[(2,27),(3,47)],[43,44,4],[],false⟩),
  (8,⟨(Tryd.f8.body).getD .skip,59,[],[4],[],true⟩),
  (14,⟨(Tryd.f14.body).getD .skip,9,[],[4],[],true⟩),
  (15,⟨(Tryd.f15.body).getD .skip,9,[],[2],[],false⟩),
  (9,⟨(Tryd.f9.body).getD .skip,17,[],[2],[],true⟩),
  (25,⟨(Tryd.f25.body).getD .skip,71,[],[4],[],false⟩),
  (26,⟨(Tryd.f26.body).getD .skip,19,[],[4],[],true⟩),
  (17,⟨(Tryd.f17.body).getD .skip,202,[],[2,3],[],true⟩),
  (41,⟨(Tryd.f41.body).getD .skip,56,[],[6,7],[],false⟩),
  (27,⟨(Tryd.f27.body).getD .skip,13,[],[2],[],false⟩),
  (28,⟨(Tryd.f28.body).getD .skip,19,[],[2],[],false⟩),
  (29,⟨(Tryd.f29.body).getD .skip,18,[(4,84)],[18],[],false⟩),
  (30,⟨(Tryd.f30.body).getD .skip,10,[(2,63)],[10],[],false⟩),
  (31,⟨(Tryd.f31.body).getD .skip,20,[],[4],[],false⟩),
  (32,⟨(Tryd.f32.body).getD .skip,18,[(4,89)],[18],[],false⟩),
  (33,⟨(Tryd.f33.body).getD .skip,30,[],[6],[],false⟩),
  (20,⟨(Tryd.f20.body).getD .skip,17,[(4,65)],[17],[],false⟩),
  (35,⟨(Tryd.f35.body).getD .skip,14,[],[3],[],false⟩),
  (34,⟨(Tryd.f34.body).getD .skip,9,[],[4],[],true⟩),
  (48,⟨(Tryd.f48.body).getD .skip,53,[(2,114)],[53,3],[],false⟩),
  (42,⟨(Tryd.f42.body).getD .skip,21,[],[2],[],false⟩),
  (36,⟨(Tryd.f36.body).getD .skip,42,[],[4],[],false⟩),
  (43,⟨(Tryd.f43.body).getD .skip,19,[],[4],[],true⟩),
  (57,⟨(Tryd.f57.body).getD .skip,18,[],[2],[],false⟩),
  (58,⟨(Tryd.f58.body).getD .skip,19,[],[2],[],false⟩),
  (70,⟨(Tryd.f70.body).getD .skip,9,[],[2],[],false⟩)]
theorem fx_ok:∀ p∈fx,FnXOk Tryd.prog p.1 p.2:=by
  intro p hp
  simp only [fx,List.mem_cons,List.not_mem_nil,or_false] at hp
  rcases hp with rfl | rfl | rfl | rfl | rfl | rfl | rfl | rfl | rfl | rfl | rfl | rfl | rfl | rfl | rfl | rfl | rfl | rfl | rfl | rfl | rfl | rfl | rfl | rfl | rfl | rfl | rfl | rfl | rfl
  · exact ⟨Tryd.call5,_,Tryd.func5,rfl,rfl,by kernel_rfl⟩
  · exact ⟨Tryd.call6,_,Tryd.func6,rfl,rfl,by kernel_rfl⟩
  · exact ⟨Tryd.call12,_,Tryd.func12,rfl,rfl,by kernel_rfl⟩
  · exact ⟨Tryd.call13,_,Tryd.func13,rfl,rfl,by kernel_rfl⟩
  · exact ⟨Tryd.call8,_,Tryd.func8,rfl,rfl,by kernel_rfl⟩
  · exact ⟨Tryd.call14,_,Tryd.func14,rfl,rfl,by kernel_rfl⟩
  · exact ⟨Tryd.call15,_,Tryd.func15,rfl,rfl,by kernel_rfl⟩
  · exact ⟨Tryd.call9,_,Tryd.func9,rfl,rfl,by kernel_rfl⟩
  · exact ⟨Tryd.call25,_,Tryd.func25,rfl,rfl,by kernel_rfl⟩
  · exact ⟨Tryd.call26,_,Tryd.func26,rfl,rfl,by kernel_rfl⟩
  · exact ⟨Tryd.call17,_,Tryd.func17,rfl,rfl,by kernel_rfl⟩
  · exact ⟨Tryd.call41,_,Tryd.func41,rfl,rfl,by kernel_rfl⟩
  · exact ⟨Tryd.call27,_,Tryd.func27,rfl,rfl,by kernel_rfl⟩
  · exact ⟨Tryd.call28,_,Tryd.func28,rfl,rfl,by kernel_rfl⟩
  · exact ⟨Tryd.call29,_,Tryd.func29,rfl,rfl,by kernel_rfl⟩
  · exact ⟨Tryd.call30,_,Tryd.func30,rfl,rfl,by kernel_rfl⟩
  · exact ⟨Tryd.call31,_,Tryd.func31,rfl,rfl,by kernel_rfl⟩
  · exact ⟨Tryd.call32,_,Tryd.func32,rfl,rfl,by kernel_rfl⟩
  · exact ⟨Tryd.call33,_,Tryd.func33,rfl,rfl,by kernel_rfl⟩
  · exact ⟨Tryd.call20,_,Tryd.func20,rfl,rfl,by kernel_rfl⟩
  · exact ⟨Tryd.call35,_,Tryd.func35,rfl,rfl,by kernel_rfl⟩
  · exact ⟨Tryd.call34,_,Tryd.func34,rfl,rfl,by kernel_rfl⟩
  · exact ⟨Tryd.call48,_,Tryd.func48,rfl,rfl,by kernel_rfl⟩
  · exact ⟨Tryd.call42,_,Tryd.func42,rfl,rfl,by kernel_rfl⟩
  · exact ⟨Tryd.call36,_,Tryd.func36,rfl,rfl,by kernel_rfl⟩
  · exact ⟨Tryd.call43,_,Tryd.func43,rfl,rfl,by kernel_rfl⟩
  · exact ⟨Tryd.call57,_,Tryd.func57,rfl,rfl,by kernel_rfl⟩
  · exact ⟨Tryd.call58,_,Tryd.func58,rfl,rfl,by kernel_rfl⟩
  · exact ⟨Tryd.call70,_,Tryd.func70,rfl,rfl,by kernel_rfl⟩
def quiets:List (Nat×Nat):=[]
noncomputable def bsp:List (FuncId×Sp U El):=[(37,itoa.sp),(56,atoi.sp),(47,split.sp),(24,cutS.sp)]
theorem bsp_ok:∀ p∈bsp,SpOk Tryd.prog E p.1 p.2:=spC itoa.spOk (spC atoi.spOk (spC split.spOk (spC cutS.spOk spN)))
noncomputable def ms0:FuncId→Option (SpM U El):=fun g=>if g=38 then some (wsSp .u8 (fun s=>s)) else if g=39 then some (wbSp .u8 (fun s=>s)) else if g=23 then some (strSp .u8 (fun s=>s)) else if g=22 then some lineSp else none
noncomputable def X0:Ctx U El:=⟨E,tds,zeros,eqs,specOf bsp,1000,0,dspecOf [],ms0⟩
theorem ok0:CtxOk Tryd.prog X0:=ctxOk tab bsp_ok dpN
theorem ms0_ok (X : Ctx U El) (hE : X.E = X0.E) (hX : CtxOk Tryd.prog X) : ∀ g sp, ms0 g = some sp → SpMOk Tryd.prog X g sp := fun g sp h => by
  have hb:ByteU X.E .u8 (fun s=>s) (fun s=>s):=by rw [hE]; exact byteU
  have ht:X.E.tid .u8=5:=by rw [hE]; rfl
  unfold ms0 at h
  split at h
  · rename_i e
    subst e
    cases h
    exact wsOk hX hb ht
  · split at h
    · rename_i e
      subst e
      cases h
      exact wbOk hX hb ht
    · split at h
      · rename_i e
        subst e
        cases h
        exact strOk hX hb ht
      · split at h
        · rename_i e
          subst e
          cases h
          exact lineOk hX hE
        · cases h
theorem quiets_ok:∀ p∈quiets,QuietD Tryd.prog p.1 p.2:=fun p hp=>by cases hp
namespace awake
theorem run:((inl X0 quiets fx 40 5).bind fun sp=>sp [] [] fun v h=>some (v,h))=some (.bool true,[]):=by kernel_rfl
theorem spec:CallSpec Tryd.prog E 5 [] (.bool true) [] :=
  inl_spec quiets_ok ok0 (fun n g sp h=>ms0_ok { X0 with nt:=n } rfl (ctxOk tab bsp_ok dpN) g sp h) fx_ok (fun X hE _ hX g sp h=>ms0_ok X hE hX g sp h) run rfl
noncomputable def sp:Sp U El:=fun args k=>match args with
  | []=>k (.bool true) []
  | _=>none
theorem spOk:SpOk Tryd.prog E 5 sp where
  det:=fun vs=>by
    unfold sp
    split
    · exact ⟨some (_,_),fun _=>rfl⟩
    · exact ⟨none,fun _=>rfl⟩
  ok:=fun vs k r h=>by
    unfold sp at h
    split at h
    · exact ⟨_,_,spec,h⟩
    · cases h
end awake
end Go.Proofs.YtnofdcckddfooaaDoor
