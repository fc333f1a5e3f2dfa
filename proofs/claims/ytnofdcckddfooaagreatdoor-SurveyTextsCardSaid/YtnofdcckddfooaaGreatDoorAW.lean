/- The example of the chapter: awake, by the whole run of its functions in their places. -/
import Derived.Test.YtnofdcckddfooaaGreatDoorVA
import Derived.Test.YtnofdcckddfooaaGreatDoorIT
import Derived.Test.YtnofdcckddfooaaGreatDoorCS
import Derived.Test.YtnofdcckddfooaaGreatDoorTL
namespace Go.Proofs.YtnofdcckddfooaaGreatDoor
set_option linter.unusedSectionVars false
set_option linter.unusedSimpArgs false
set_option linter.unusedVariables false
set_option maxRecDepth 100000
noncomputable def fx:List (FuncId×FnX):=[(8,⟨(Tryz.f8.body).getD .skip,42,[],[0],[],false⟩),
  (31,⟨(Tryz.f31.body).getD .skip,136,[(8,25)],[136,9],[],true⟩),
  (13,⟨(Tryz.f13.body).getD .skip,47,[],[2,3],[],true⟩),
  (10,⟨(Tryz.f10.body).getD .skip,43,[(2,25),(3,29)],[43,44,4],[],false⟩),
  (12,⟨(Tryz.f12.body).getD .skip,59,[],[4],[],true⟩),
  (56,⟨(Tryz.f56.body).getD .skip,9,[],[4],[],true⟩),
  (57,⟨(Tryz.f57.body).getD .skip,9,[],[2],[],false⟩),
  (34,⟨(Tryz.f34.body).getD .skip,17,[],[2],[],true⟩),
  (33,⟨(Tryz.f33.body).getD .skip,71,[],[4],[],false⟩),
  (84,⟨(Tryz.f84.body).getD .skip,19,[],[4],[],true⟩),
  (60,⟨(Tryz.f60.body).getD .skip,202,[],[2,3],[],true⟩),
  (59,⟨(Tryz.f59.body).getD .skip,56,[],[6,7],[],false⟩),
  (88,⟨(Tryz.f88.body).getD .skip,13,[],[2],[],false⟩),
  (89,⟨(Tryz.f89.body).getD .skip,19,[],[2],[],false⟩),
  (90,⟨(Tryz.f90.body).getD .skip,18,[(4,124)],[18],[],false⟩),
  (75,⟨(Tryz.f75.body).getD .skip,10,[(2,87)],[10],[],false⟩),
  (91,⟨(Tryz.f91.body).getD .skip,20,[],[4],[],false⟩),
  (82,⟨(Tryz.f82.body).getD .skip,18,[(4,138)],[18],[],false⟩),
  (83,⟨(Tryz.f83.body).getD .skip,30,[],[6],[],false⟩),
  (44,⟨(Tryz.f44.body).getD .skip,17,[(4,92)],[17],[],false⟩),
  (93,⟨(Tryz.f93.body).getD .skip,14,[],[3],[],false⟩),
  (92,⟨(Tryz.f92.body).getD .skip,9,[],[4],[],true⟩),
  (87,⟨(Tryz.f87.body).getD .skip,53,[(2,109)],[53,3],[],false⟩),
  (116,⟨(Tryz.f116.body).getD .skip,21,[],[2],[],false⟩),
  (94,⟨(Tryz.f94.body).getD .skip,42,[],[4],[],false⟩),
  (117,⟨(Tryz.f117.body).getD .skip,19,[],[4],[],true⟩),
  (114,⟨(Tryz.f114.body).getD .skip,18,[],[2],[],false⟩),
  (115,⟨(Tryz.f115.body).getD .skip,19,[],[2],[],false⟩),
  (146,⟨(Tryz.f146.body).getD .skip,9,[],[2],[],false⟩)]
theorem fx_ok:∀ p∈fx,FnXOk Tryz.prog p.1 p.2:=by
  intro p hp
  simp only [fx,List.mem_cons,List.not_mem_nil,or_false] at hp
  rcases hp with rfl | rfl | rfl | rfl | rfl | rfl | rfl | rfl | rfl | rfl | rfl | rfl | rfl | rfl | rfl | rfl | rfl | rfl | rfl | rfl | rfl | rfl | rfl | rfl | rfl | rfl | rfl | rfl | rfl
  · exact ⟨Tryz.call8,_,Tryz.func8,rfl,rfl,by kernel_rfl⟩
  · exact ⟨Tryz.call31,_,Tryz.func31,rfl,rfl,by kernel_rfl⟩
  · exact ⟨Tryz.call13,_,Tryz.func13,rfl,rfl,by kernel_rfl⟩
  · exact ⟨Tryz.call10,_,Tryz.func10,rfl,rfl,by kernel_rfl⟩
  · exact ⟨Tryz.call12,_,Tryz.func12,rfl,rfl,by kernel_rfl⟩
  · exact ⟨Tryz.call56,_,Tryz.func56,rfl,rfl,by kernel_rfl⟩
  · exact ⟨Tryz.call57,_,Tryz.func57,rfl,rfl,by kernel_rfl⟩
  · exact ⟨Tryz.call34,_,Tryz.func34,rfl,rfl,by kernel_rfl⟩
  · exact ⟨Tryz.call33,_,Tryz.func33,rfl,rfl,by kernel_rfl⟩
  · exact ⟨Tryz.call84,_,Tryz.func84,rfl,rfl,by kernel_rfl⟩
  · exact ⟨Tryz.call60,_,Tryz.func60,rfl,rfl,by kernel_rfl⟩
  · exact ⟨Tryz.call59,_,Tryz.func59,rfl,rfl,by kernel_rfl⟩
  · exact ⟨Tryz.call88,_,Tryz.func88,rfl,rfl,by kernel_rfl⟩
  · exact ⟨Tryz.call89,_,Tryz.func89,rfl,rfl,by kernel_rfl⟩
  · exact ⟨Tryz.call90,_,Tryz.func90,rfl,rfl,by kernel_rfl⟩
  · exact ⟨Tryz.call75,_,Tryz.func75,rfl,rfl,by kernel_rfl⟩
  · exact ⟨Tryz.call91,_,Tryz.func91,rfl,rfl,by kernel_rfl⟩
  · exact ⟨Tryz.call82,_,Tryz.func82,rfl,rfl,by kernel_rfl⟩
  · exact ⟨Tryz.call83,_,Tryz.func83,rfl,rfl,by kernel_rfl⟩
  · exact ⟨Tryz.call44,_,Tryz.func44,rfl,rfl,by kernel_rfl⟩
  · exact ⟨Tryz.call93,_,Tryz.func93,rfl,rfl,by kernel_rfl⟩
  · exact ⟨Tryz.call92,_,Tryz.func92,rfl,rfl,by kernel_rfl⟩
  · exact ⟨Tryz.call87,_,Tryz.func87,rfl,rfl,by kernel_rfl⟩
  · exact ⟨Tryz.call116,_,Tryz.func116,rfl,rfl,by kernel_rfl⟩
  · exact ⟨Tryz.call94,_,Tryz.func94,rfl,rfl,by kernel_rfl⟩
  · exact ⟨Tryz.call117,_,Tryz.func117,rfl,rfl,by kernel_rfl⟩
  · exact ⟨Tryz.call114,_,Tryz.func114,rfl,rfl,by kernel_rfl⟩
  · exact ⟨Tryz.call115,_,Tryz.func115,rfl,rfl,by kernel_rfl⟩
  · exact ⟨Tryz.call146,_,Tryz.func146,rfl,rfl,by kernel_rfl⟩
def quiets:List (Nat×Nat):=[]
noncomputable def bsp:List (FuncId×Sp U El):=[(64,itoa.sp),(113,atoi.sp),(86,split.sp),(32,cutS.sp)]
theorem bsp_ok:∀ p∈bsp,SpOk Tryz.prog E p.1 p.2:=spC itoa.spOk (spC atoi.spOk (spC split.spOk (spC cutS.spOk spN)))
noncomputable def ms0:FuncId→Option (SpM U El):=fun g=>if g=62 then some (wsSp .u8 (fun s=>s)) else if g=63 then some (wbSp .u8 (fun s=>s)) else if g=37 then some (strSp .u8 (fun s=>s)) else if g=36 then some lineSp else none
noncomputable def X0:Ctx U El:=⟨E,tds,zeros,eqs,specOf bsp,1000,0,dspecOf [],ms0⟩
theorem ok0:CtxOk Tryz.prog X0:=ctxOk tab bsp_ok dpN
theorem ms0_ok (X : Ctx U El) (hE : X.E = X0.E) (hX : CtxOk Tryz.prog X) : ∀ g sp, ms0 g = some sp → SpMOk Tryz.prog X g sp := fun g sp h => by
  have hb:ByteU X.E .u8 (fun s=>s) (fun s=>s):=by rw [hE]; exact byteU
  have ht:X.E.tid .u8=5:=by rw [hE]; rfl
  unfold ms0 at h
  split at h
  · rename_i e
    subst e
    cases h
    exact wsOk hX hb ht
  · split at h
    · rename_i e
      subst e
      cases h
      exact wbOk hX hb ht
    · split at h
      · rename_i e
        subst e
        cases h
        exact strOk hX hb ht
      · split at h
        · rename_i e
          subst e
          cases h
          exact lineOk hX hE
        · cases h
theorem quiets_ok:∀ p∈quiets,QuietD Tryz.prog p.1 p.2:=fun p hp=>by cases hp
namespace awake
theorem run:((inl X0 quiets fx 40 8).bind fun sp=>sp [] [] fun v h=>some (v,h))=some (.bool true,[]):=by kernel_rfl
theorem spec:CallSpec Tryz.prog E 8 [] (.bool true) [] :=
  inl_spec quiets_ok ok0 (fun n g sp h=>ms0_ok { X0 with nt:=n } rfl (ctxOk tab bsp_ok dpN) g sp h) fx_ok (fun X hE _ hX g sp h=>ms0_ok X hE hX g sp h) run rfl
noncomputable def sp:Sp U El:=fun args k=>match args with
  | []=>k (.bool true) []
  | _=>none
theorem spOk:SpOk Tryz.prog E 8 sp where
  det:=fun vs=>by
    unfold sp
    split
    · exact ⟨some (_,_),fun _=>rfl⟩
    · exact ⟨none,fun _=>rfl⟩
  ok:=fun vs k r h=>by
    unfold sp at h
    split at h
    · exact ⟨_,_,spec,h⟩
    · cases h
end awake
end Go.Proofs.YtnofdcckddfooaaGreatDoor
