/- The example of the chapter: awake, by the whole run of its functions in their places. -/
import Derived.Test.YtlkfbblapimhoaaDoorVA
import Derived.Test.YtlkfbblapimhoaaDoorIT
import Derived.WalkKit
import Derived.Recover
namespace Go.Proofs.YtlkfbblapimhoaaDoor
set_option linter.unusedSectionVars false
set_option linter.unusedSimpArgs false
set_option linter.unusedVariables false
set_option maxRecDepth 100000
theorem quietP:QuietD Tryd.prog 43 3:=by
  refine ⟨Tryd.call43,fun vs w hsz => ?_⟩
  obtain ⟨a,b,c,rfl⟩:∃ a b c,vs=#[a,b,c]:=by
    match vs,hsz with
    | ⟨[a,b,c]⟩,_=>exact ⟨a,b,c,rfl⟩
  have hne:∀ W,(binOp .neq 20 .nilIface .nilIface).run Tryd.prog W = .ok (.bool false) W:=fun W=>by kernel_rfl
  refine callsD_of_wpS Tryd.func43 rfl fun c₀ cs hu => ?_
  apply wpS_seq
  apply wpS_region
  simp [wpOpsS,go_sem,recoverD,hu,Tryd.ntmps43,Exit.thenS]
  apply wpS_seq
  apply wpS_region
  simp [wpOpsS,go_sem,hne,Exit.thenS]
  refine wpS_cond (t:=false) (by simp [Act.eval,Array.replicate]) ?_
  simp only [Bool.false_eq_true,if_false]
  refine wpS_of_wp (wp_skip ?_)
  cases c₀
  simp_all [bodyPostS,results,Tryd.results43,Exit.thenS]
noncomputable def fx:List (FuncId×FnX):=[(7,⟨(Tryd.f7.body).getD .skip,74,[],[0],[],false⟩),
  (24,⟨(Tryd.f24.body).getD .skip,47,[(2,40),(3,54),(4,30)],[47,48,49],[],false⟩),
  (11,⟨(Tryd.f11.body).getD .skip,27,[],[6,7],[],false⟩),
  (10,⟨(Tryd.f10.body).getD .skip,192,[(2,24)],[192,3],[0],false⟩),
  (27,⟨(Tryd.f27.body).getD .skip,26,[],[4],[],false⟩),
  (42,⟨(Tryd.f42.body).getD .skip,92,[(3,54)],[2,92,4],[],false⟩),
  (44,⟨(Tryd.f44.body).getD .skip,13,[(2,88)],[13],[],false⟩),
  (45,⟨(Tryd.f45.body).getD .skip,42,[(2,24)],[42],[],false⟩),
  (33,⟨(Tryd.f33.body).getD .skip,71,[],[6,7],[],false⟩),
  (34,⟨(Tryd.f34.body).getD .skip,10,[],[4],[],false⟩),
  (61,⟨(Tryd.f61.body).getD .skip,49,[],[2],[],false⟩),
  (62,⟨(Tryd.f62.body).getD .skip,19,[],[2],[],false⟩),
  (63,⟨(Tryd.f63.body).getD .skip,35,[],[6],[],false⟩),
  (64,⟨(Tryd.f64.body).getD .skip,20,[],[6],[],false⟩),
  (65,⟨(Tryd.f65.body).getD .skip,25,[(2,38)],[25],[],false⟩),
  (66,⟨(Tryd.f66.body).getD .skip,58,[],[2],[],false⟩),
  (53,⟨(Tryd.f53.body).getD .skip,14,[],[3],[],false⟩),
  (28,⟨(Tryd.f28.body).getD .skip,9,[],[4],[],false⟩),
  (72,⟨(Tryd.f72.body).getD .skip,8,[],[4],[],false⟩),
  (73,⟨(Tryd.f73.body).getD .skip,6,[],[],[],false⟩),
  (50,⟨(Tryd.f50.body).getD .skip,19,[],[4],[],false⟩),
  (79,⟨(Tryd.f79.body).getD .skip,18,[],[4],[],false⟩)]
theorem fx_ok:∀ p∈fx,FnXOk Tryd.prog p.1 p.2:=by
  intro p hp
  simp only [fx,List.mem_cons,List.not_mem_nil,or_false] at hp
  rcases hp with rfl | rfl | rfl | rfl | rfl | rfl | rfl | rfl | rfl | rfl | rfl | rfl | rfl | rfl | rfl | rfl | rfl | rfl | rfl | rfl | rfl | rfl
  · exact ⟨Tryd.call7,_,Tryd.func7,rfl,rfl,by kernel_rfl⟩
  · exact ⟨Tryd.call24,_,Tryd.func24,rfl,rfl,by kernel_rfl⟩
  · exact ⟨Tryd.call11,_,Tryd.func11,rfl,rfl,by kernel_rfl⟩
  · exact ⟨Tryd.call10,_,Tryd.func10,rfl,rfl,by kernel_rfl⟩
  · exact ⟨Tryd.call27,_,Tryd.func27,rfl,rfl,by kernel_rfl⟩
  · exact ⟨Tryd.call42,_,Tryd.func42,rfl,rfl,by kernel_rfl⟩
  · exact ⟨Tryd.call44,_,Tryd.func44,rfl,rfl,by kernel_rfl⟩
  · exact ⟨Tryd.call45,_,Tryd.func45,rfl,rfl,by kernel_rfl⟩
  · exact ⟨Tryd.call33,_,Tryd.func33,rfl,rfl,by kernel_rfl⟩
  · exact ⟨Tryd.call34,_,Tryd.func34,rfl,rfl,by kernel_rfl⟩
  · exact ⟨Tryd.call61,_,Tryd.func61,rfl,rfl,by kernel_rfl⟩
  · exact ⟨Tryd.call62,_,Tryd.func62,rfl,rfl,by kernel_rfl⟩
  · exact ⟨Tryd.call63,_,Tryd.func63,rfl,rfl,by kernel_rfl⟩
  · exact ⟨Tryd.call64,_,Tryd.func64,rfl,rfl,by kernel_rfl⟩
  · exact ⟨Tryd.call65,_,Tryd.func65,rfl,rfl,by kernel_rfl⟩
  · exact ⟨Tryd.call66,_,Tryd.func66,rfl,rfl,by kernel_rfl⟩
  · exact ⟨Tryd.call53,_,Tryd.func53,rfl,rfl,by kernel_rfl⟩
  · exact ⟨Tryd.call28,_,Tryd.func28,rfl,rfl,by kernel_rfl⟩
  · exact ⟨Tryd.call72,_,Tryd.func72,rfl,rfl,by kernel_rfl⟩
  · exact ⟨Tryd.call73,_,Tryd.func73,rfl,rfl,by kernel_rfl⟩
  · exact ⟨Tryd.call50,_,Tryd.func50,rfl,rfl,by kernel_rfl⟩
  · exact ⟨Tryd.call79,_,Tryd.func79,rfl,rfl,by kernel_rfl⟩
def quiets:List (Nat×Nat):=[(43,3)]
theorem quiets_ok:∀ p∈quiets,QuietD Tryd.prog p.1 p.2:=by
  intro p hp
  simp only [quiets,List.mem_singleton] at hp
  subst hp
  exact quietP
noncomputable def bsp:List (FuncId×Sp U El):=[(39,isname.sp),(32,valid1.sp),(26,valid.sp),(52,rwithin.sp),(57,letter.sp),(60,digit.sp),(58,word.sp),(74,atoi.sp),(69,itoa.sp),(59,idxb.sp)]
theorem bsp_ok:∀ p∈bsp,SpOk Tryd.prog E p.1 p.2:=spC isname.spOk (spC valid1.spOk (spC valid.spOk (spC rwithin.spOk (spC letter.spOk (spC digit.spOk (spC word.spOk (spC atoi.spOk (spC itoa.spOk (spC idxb.spOk spN)))))))))
noncomputable def X0:Ctx U El:=⟨E,tds,zeros,eqs,specOf bsp,1000,0,dspecOf [],fun _=>none,fun _=>none⟩
theorem ok0:CtxOk Tryd.prog X0:=ctxOk tab bsp_ok dpN
namespace awake
theorem run:((inl X0 quiets fx 40 7).bind fun sp=>sp [] [] fun v h=>some (v,h))=some (.bool true,[]):=by kernel_rfl
theorem spec:CallSpec Tryd.prog E 7 [] (.bool true) [] :=
  inl_spec quiets_ok ok0 (fun n g sp h=>by cases h) fx_ok (fun _ _ _ _ g sp h=>by cases h) run rfl
noncomputable def sp:Sp U El:=fun args k=>match args with
  | []=>k (.bool true) []
  | _=>none
theorem spOk:SpOk Tryd.prog E 7 sp where
  det:=fun vs=>by
    unfold sp
    split
    · exact ⟨some (_,_),fun _=>rfl⟩
    · exact ⟨none,fun _=>rfl⟩
  ok:=fun vs k r h=>by
    unfold sp at h
    split at h
    · exact ⟨_,_,spec,h⟩
    · cases h
end awake
end Go.Proofs.YtlkfbblapimhoaaDoor
