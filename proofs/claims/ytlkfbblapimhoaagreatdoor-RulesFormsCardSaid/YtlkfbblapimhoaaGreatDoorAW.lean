import Derived.Test.YtlkfbblapimhoaaGreatDoorVA
import Derived.Test.YtlkfbblapimhoaaGreatDoorIT
import Derived.WalkKit
import Derived.Recover
namespace Go.Proofs.YtlkfbblapimhoaaGreatDoor
set_option linter.all false
set_option maxRecDepth 100000
theorem quietP:QuietD Tryz.prog 43 3:=by
 refine ⟨Tryz.call43,fun vs w hsz=>?_⟩
 obtain ⟨a,b,c,rfl⟩:∃ a b c,vs=#[a,b,c]:=by
  match vs,hsz with
  | ⟨[a,b,c]⟩,_=>exact ⟨a,b,c,rfl⟩
 have hne:∀ W,(binOp .neq 20 .nilIface .nilIface).run Tryz.prog W=.ok (.bool false) W:=fun W=>by kernel_rfl
 refine callsD_of_wpS Tryz.func43 rfl fun c₀ cs hu=>?_
 apply wpS_seq
 apply wpS_region
 simp [wpOpsS,go_sem,recoverD,hu,Tryz.ntmps43,Exit.thenS]
 apply wpS_seq
 apply wpS_region
 simp [wpOpsS,go_sem,hne,Exit.thenS]
 refine wpS_cond (t:=false) (by simp [Act.eval,Array.replicate]) ?_
 simp only [Bool.false_eq_true,if_false]
 refine wpS_of_wp (wp_skip ?_)
 cases c₀
 simp_all [bodyPostS,results,Tryz.results43,Exit.thenS]
noncomputable def fx:List (FuncId×FnX):=[(7,⟨(Tryz.f7.body).getD .skip,74,[],[0],[],false⟩),
 (11,⟨(Tryz.f11.body).getD .skip,47,[(2,22),(3,29),(4,25)],[47,48,49],[],false⟩),
 (34,⟨(Tryz.f34.body).getD .skip,27,[],[6,7],[],false⟩),
 (24,⟨(Tryz.f24.body).getD .skip,192,[(2,51)],[192,3],[0],false⟩),
 (35,⟨(Tryz.f35.body).getD .skip,26,[],[4],[],false⟩),
 (42,⟨(Tryz.f42.body).getD .skip,92,[(3,29)],[2,92,4],[],false⟩),
 (44,⟨(Tryz.f44.body).getD .skip,13,[(2,101)],[13],[],false⟩),
 (45,⟨(Tryz.f45.body).getD .skip,42,[(2,51)],[42],[],false⟩),
 (75,⟨(Tryz.f75.body).getD .skip,71,[],[6,7],[],false⟩),
 (55,⟨(Tryz.f55.body).getD .skip,10,[],[4],[],false⟩),
 (84,⟨(Tryz.f84.body).getD .skip,49,[],[2],[],false⟩),
 (85,⟨(Tryz.f85.body).getD .skip,19,[],[2],[],false⟩),
 (86,⟨(Tryz.f86.body).getD .skip,35,[],[6],[],false⟩),
 (87,⟨(Tryz.f87.body).getD .skip,20,[],[6],[],false⟩),
 (88,⟨(Tryz.f88.body).getD .skip,25,[(2,78)],[25],[],false⟩),
 (89,⟨(Tryz.f89.body).getD .skip,58,[],[2],[],false⟩),
 (102,⟨(Tryz.f102.body).getD .skip,14,[],[3],[],false⟩),
 (63,⟨(Tryz.f63.body).getD .skip,9,[],[4],[],false⟩),
 (117,⟨(Tryz.f117.body).getD .skip,8,[],[4],[],false⟩),
 (118,⟨(Tryz.f118.body).getD .skip,6,[],[],[],false⟩),
 (108,⟨(Tryz.f108.body).getD .skip,19,[],[4],[],false⟩),
 (151,⟨(Tryz.f151.body).getD .skip,18,[],[4],[],false⟩)]
theorem fx_ok:∀ p∈fx,FnXOk Tryz.prog p.1 p.2:=by
 intro p hp
 simp only [fx,List.mem_cons,List.not_mem_nil,or_false] at hp
 rcases hp with rfl | rfl | rfl | rfl | rfl | rfl | rfl | rfl | rfl | rfl | rfl | rfl | rfl | rfl | rfl | rfl | rfl | rfl | rfl | rfl | rfl | rfl
 ·exact ⟨Tryz.call7,_,Tryz.func7,rfl,rfl,by kernel_rfl⟩
 ·exact ⟨Tryz.call11,_,Tryz.func11,rfl,rfl,by kernel_rfl⟩
 ·exact ⟨Tryz.call34,_,Tryz.func34,rfl,rfl,by kernel_rfl⟩
 ·exact ⟨Tryz.call24,_,Tryz.func24,rfl,rfl,by kernel_rfl⟩
 ·exact ⟨Tryz.call35,_,Tryz.func35,rfl,rfl,by kernel_rfl⟩
 ·exact ⟨Tryz.call42,_,Tryz.func42,rfl,rfl,by kernel_rfl⟩
 ·exact ⟨Tryz.call44,_,Tryz.func44,rfl,rfl,by kernel_rfl⟩
 ·exact ⟨Tryz.call45,_,Tryz.func45,rfl,rfl,by kernel_rfl⟩
 ·exact ⟨Tryz.call75,_,Tryz.func75,rfl,rfl,by kernel_rfl⟩
 ·exact ⟨Tryz.call55,_,Tryz.func55,rfl,rfl,by kernel_rfl⟩
 ·exact ⟨Tryz.call84,_,Tryz.func84,rfl,rfl,by kernel_rfl⟩
 ·exact ⟨Tryz.call85,_,Tryz.func85,rfl,rfl,by kernel_rfl⟩
 ·exact ⟨Tryz.call86,_,Tryz.func86,rfl,rfl,by kernel_rfl⟩
 ·exact ⟨Tryz.call87,_,Tryz.func87,rfl,rfl,by kernel_rfl⟩
 ·exact ⟨Tryz.call88,_,Tryz.func88,rfl,rfl,by kernel_rfl⟩
 ·exact ⟨Tryz.call89,_,Tryz.func89,rfl,rfl,by kernel_rfl⟩
 ·exact ⟨Tryz.call102,_,Tryz.func102,rfl,rfl,by kernel_rfl⟩
 ·exact ⟨Tryz.call63,_,Tryz.func63,rfl,rfl,by kernel_rfl⟩
 ·exact ⟨Tryz.call117,_,Tryz.func117,rfl,rfl,by kernel_rfl⟩
 ·exact ⟨Tryz.call118,_,Tryz.func118,rfl,rfl,by kernel_rfl⟩
 ·exact ⟨Tryz.call108,_,Tryz.func108,rfl,rfl,by kernel_rfl⟩
 ·exact ⟨Tryz.call151,_,Tryz.func151,rfl,rfl,by kernel_rfl⟩
def quiets:List (Nat×Nat):=[(43,3)]
theorem quiets_ok:∀ p∈quiets,QuietD Tryz.prog p.1 p.2:=by
 intro p hp
 simp only [quiets,List.mem_singleton] at hp
 subst hp
 exact quietP
noncomputable def bsp:List (FuncId×Sp U El):=[(67,isname.sp),(48,valid1.sp),(13,valid.sp),(53,rwithin.sp),(81,letter.sp),(83,digit.sp),(82,word.sp),(119,atoi.sp),(79,itoa.sp),(80,idxb.sp)]
theorem bsp_ok:∀ p∈bsp,SpOk Tryz.prog E p.1 p.2:=spC isname.spOk (spC valid1.spOk (spC valid.spOk (spC rwithin.spOk (spC letter.spOk (spC digit.spOk (spC word.spOk (spC atoi.spOk (spC itoa.spOk (spC idxb.spOk spN)))))))))
noncomputable def X0:Ctx U El:=⟨E,tds,zeros,eqs,specOf bsp,1000,0,dspecOf [],fun _=>none,fun _=>none⟩
theorem ok0:CtxOk Tryz.prog X0:=ctxOk tab bsp_ok dpN
namespace awake
theorem run:((inl X0 quiets fx 40 7).bind fun sp=>sp [] [] fun v h=>some (v,h))=some (.bool true,[]):=by kernel_rfl
theorem spec:CallSpec Tryz.prog E 7 [] (.bool true) [] :=
 inl_spec quiets_ok ok0 (fun n g sp h=>by cases h) fx_ok (fun _ _ _ _ g sp h=>by cases h) run rfl
noncomputable def sp:Sp U El:=fun args k=>match args with
 | []=>k (.bool true) []
 | _=>none
theorem spOk:SpOk Tryz.prog E 7 sp:=⟨fun vs=>by unfold sp;split;exact ⟨some (_,_),fun _=>rfl⟩;exact ⟨none,fun _=>rfl⟩,fun vs k r h=>by unfold sp at h;split at h;exact ⟨_,_,spec,h⟩;cases h⟩
end awake
end Go.Proofs.YtlkfbblapimhoaaGreatDoor
