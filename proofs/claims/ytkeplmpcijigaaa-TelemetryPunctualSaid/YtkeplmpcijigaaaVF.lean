/- The example of the chapter. -/
import Derived.Test.YtkeplmpcijigaaaVE
namespace Go.Proofs.Ytkeplmpcijigaaa
variable [Drw]
set_option linter.unusedSectionVars false
set_option linter.unusedSimpArgs false
set_option linter.unusedVariables false
set_option maxRecDepth 100000
theorem sortM_nil:sortM []=[]:=List.mergeSort_nil
theorem sortM_one (m:Msg):sortM [m]=[m]:=List.mergeSort_singleton m
noncomputable def m0:Msg:=⟨[97],0,5,7,0⟩
noncomputable def m1:Msg:=⟨[97],1,3,12,0⟩
noncomputable def m2:Msg:=⟨[98],0,1,14,0⟩
namespace awake
noncomputable def bd:Code:=(Try.f9.body).getD .skip
noncomputable def X:Ctx U El:=⟨E,tds,zeros,eqs,specOf [],100000,73,dspecOf [(13,fput.sp),(14,fmark.sp),(19,fready.sp)],mspecOf [(11,(mcSp newF.sp)),(17,(mcSp (orN flateN.sp flate.sp))),(19,(mcSp (orN freadyN.sp fready.sp)))],fun _=>none⟩
noncomputable def nmR:Norm U:=⟨[],[0],[],[],[],[],[]⟩
noncomputable def RR:Kont U El:=fun st=>normK nmR st (retFin [0] [])
noncomputable def nm1:Norm U:=⟨[],[1],[8000,500800003,500800004,500800005],[],[(8000,3,.key,500800003),(8000,4,.msg,500800004),(8000,5,.msg,500800005)],[],[]⟩
noncomputable def nm2:Norm U:=⟨[],[1],[8000,500800003,500800004,500800005],[],[(8000,3,.key,500800003),(8000,4,.msg,500800004),(8000,5,.msg,500800005)],[],[]⟩
noncomputable def nm3:Norm U:=⟨[(20,.msg)],[1,20,21,22],[20,8000,500800003,500800004,500800005],[],[(8000,3,.key,500800003),(8000,4,.msg,500800004),(8000,5,.msg,500800005)],[],[]⟩
noncomputable def nm4:Norm U:=⟨[(20,.msg)],[1,20,21,22],[20,8000,500800003,500800004,500800005],[],[(8000,3,.key,500800003),(8000,4,.msg,500800004),(8000,5,.msg,500800005)],[],[]⟩
abbrev Y1:=Int→Int→Int→(List (Key×Bool))→(List Msg)→(List Msg)→R
abbrev Y2:=Int→Int→Int→(List (Key×Bool))→(List Msg)→(List Msg)→R
abbrev Y3:=(List Msg)→Int→Int→Int→Int→Int→(List (Key×Bool))→(List Msg)→(List Msg)→R
abbrev Y4:=(List Msg)→Int→Int→Int→Int→Int→(List (Key×Bool))→(List Msg)→(List Msg)→R
noncomputable def fr0:St U El:=⟨[],[]⟩
noncomputable def fr1 (dA:Int) (aA:Int) (eA:Int) (fA:List (Key×Bool)) (bA:List Msg) (cA:List Msg):St U El:=⟨[(1,(.ptr 8000 0))],[(8000,(.box 0 [(.int .i64 dA),(.int .i64 aA),(.int .i64 eA),(.mp 500800003),(.ful 500800004),(.ful 500800005)])),(500800003,(.map .key .bool fA)),(500800004,(.rows .msg bA)),(500800005,(.rows .msg cA))]⟩
noncomputable def fr2 (dA:Int) (aA:Int) (eA:Int) (fA:List (Key×Bool)) (bA:List Msg) (cA:List Msg):St U El:=⟨[(1,(.ptr 8000 0))],[(8000,(.box 0 [(.int .i64 dA),(.int .i64 aA),(.int .i64 eA),(.mp 500800003),(.ful 500800004),(.ful 500800005)])),(500800003,(.map .key .bool fA)),(500800004,(.rows .msg bA)),(500800005,(.rows .msg cA))]⟩
noncomputable def fr3 (hA:List Msg) (iA:Int) (gA:Int) (dA:Int) (aA:Int) (eA:Int) (fA:List (Key×Bool)) (bA:List Msg) (cA:List Msg):St U El:=⟨[(1,(.ptr 8000 0)),(20,(.ful 20)),(21,(.int .i64 iA)),(22,(.int .i64 gA))],[(20,(.rows .msg hA)),(8000,(.box 0 [(.int .i64 dA),(.int .i64 aA),(.int .i64 eA),(.mp 500800003),(.ful 500800004),(.ful 500800005)])),(500800003,(.map .key .bool fA)),(500800004,(.rows .msg bA)),(500800005,(.rows .msg cA))]⟩
noncomputable def fr4 (hA:List Msg) (iA:Int) (gA:Int) (dA:Int) (aA:Int) (eA:Int) (fA:List (Key×Bool)) (bA:List Msg) (cA:List Msg):St U El:=⟨[(1,(.ptr 8000 0)),(20,(.ful 20)),(21,(.int .i64 iA)),(22,(.int .i64 gA))],[(20,(.rows .msg hA)),(8000,(.box 0 [(.int .i64 dA),(.int .i64 aA),(.int .i64 eA),(.mp 500800003),(.ful 500800004),(.ful 500800005)])),(500800003,(.map .key .bool fA)),(500800004,(.rows .msg bA)),(500800005,(.rows .msg cA))]⟩
noncomputable def sh0 (k1:Y1):R :=
  condB (ile 0 (10:Int)&&ile (10:Int) 68719476736) (k1 ((10:Int)) (-137438953472:Int) (-68719476736:Int) ([]) ([]) ([])) (some ((.bool false),[]))
noncomputable def sh1 (dA:Int) (aA:Int) (eA:Int) (fA:List (Key×Bool)) (bA:List Msg) (cA:List Msg) (k3:Y3):R :=
  k3 ([(⟨([97]:List UInt8),(0:Int),(5:Int),(7:Int),(0:Int)⟩:Msg),(⟨([97]:List UInt8),(1:Int),(3:Int),(12:Int),(0:Int)⟩:Msg),(⟨([98]:List UInt8),(0:Int),(1:Int),(14:Int),(0:Int)⟩:Msg)]:List Msg) (Int.ofNat (List.length ([(⟨([97]:List UInt8),(0:Int),(5:Int),(7:Int),(0:Int)⟩:Msg),(⟨([97]:List UInt8),(1:Int),(3:Int),(12:Int),(0:Int)⟩:Msg),(⟨([98]:List UInt8),(0:Int),(1:Int),(14:Int),(0:Int)⟩:Msg)]:List Msg))) (0:Int) dA aA eA fA bA cA
noncomputable def sh2 (dA:Int) (aA:Int) (eA:Int) (fA:List (Key×Bool)) (bA:List Msg) (cA:List Msg):R :=
  chk ((keysB bA&&nle (List.length bA) 90000)) (chk (nle (List.length cA) 90000) (condB ((Int.ofNat (List.length (sortM (List.filter (fun m=>ilt (Msg.at_ m) aA) bA)))) == (1:Int)) (chk (inb (0:Int) (List.length (sortM (List.filter (fun m=>ilt (Msg.at_ m) aA) bA)))) (chk (nlt 0 (List.length (sortM (List.filter (fun m=>ilt (Msg.at_ m) aA) bA)))) (condB ((List.getD (sortM (List.filter (fun m=>ilt (Msg.at_ m) aA) bA)) 0 d_msg).at_ == (3:Int)) (condB ((Int.ofNat (List.length (cA))) == (1:Int)) (chk (inb (0:Int) (List.length (cA))) (chk (nlt 0 (List.length (cA))) (some ((.bool (((List.getD (cA) 0 d_msg).nd) == ([98]:List UInt8))),[])))) (some ((.bool false),[]))) (some ((.bool false),[]))))) (some ((.bool false),[]))))
noncomputable def sh3 (hA:List Msg) (iA:Int) (gA:Int) (dA:Int) (aA:Int) (eA:Int) (fA:List (Key×Bool)) (bA:List Msg) (cA:List Msg) (k2:Y2) (k4:Y4):R :=
  condB (ilt gA iA) (chk (inb gA (List.length hA)) (chk (nlt (Int.toNat gA) (List.length hA)) (chk ((keysB bA&&nle (List.length bA) 90000)) (condB ((Int.ofNat (List.length (sortM (List.filter (fun m=>ilt (Msg.at_ m) aA) bA)))) != (0:Int)) (some ((.bool false),[])) (chk (fsOk ⟨dA,aA,eA,fA,(List.filter (fun m => !(ilt (Msg.at_ m) aA)) bA),cA⟩) (condB ((putE ⟨dA,aA,eA,fA,(List.filter (fun m => !(ilt (Msg.at_ m) aA)) bA),cA⟩ (List.getD hA (Int.toNat gA) d_msg)) != (0:Int)) (some ((.bool false),[])) (chk (inb gA (List.length ([(-3:Int),(2:Int),(4:Int)]:List Int))) (chk (nlt (Int.toNat gA) (List.length ([(-3:Int),(2:Int),(4:Int)]:List Int))) (condB (((FS.mk_ (putS ⟨dA,aA,eA,fA,(List.filter (fun m => !(ilt (Msg.at_ m) aA)) bA),cA⟩ (List.getD hA (Int.toNat gA) d_msg)))) != (List.getD ([(-3:Int),(2:Int),(4:Int)]:List Int) (Int.toNat gA) d_int)) (some ((.bool false),[])) (k4 hA iA gA dA (FS.mk_ (putS ⟨dA,aA,eA,fA,(List.filter (fun m => !(ilt (Msg.at_ m) aA)) bA),cA⟩ (List.getD hA (Int.toNat gA) d_msg))) (FS.ls (putS ⟨dA,aA,eA,fA,(List.filter (fun m => !(ilt (Msg.at_ m) aA)) bA),cA⟩ (List.getD hA (Int.toNat gA) d_msg))) (FS.got (putS ⟨dA,aA,eA,fA,(List.filter (fun m => !(ilt (Msg.at_ m) aA)) bA),cA⟩ (List.getD hA (Int.toNat gA) d_msg))) (FS.wt (putS ⟨dA,aA,eA,fA,(List.filter (fun m => !(ilt (Msg.at_ m) aA)) bA),cA⟩ (List.getD hA (Int.toNat gA) d_msg))) (FS.lt (putS ⟨dA,aA,eA,fA,(List.filter (fun m => !(ilt (Msg.at_ m) aA)) bA),cA⟩ (List.getD hA (Int.toNat gA) d_msg))))))))))))) (k2 dA aA eA fA bA cA)
noncomputable def sh4 (hA:List Msg) (iA:Int) (gA:Int) (dA:Int) (aA:Int) (eA:Int) (fA:List (Key×Bool)) (bA:List Msg) (cA:List Msg) (k3:Y3):R :=
  k3 hA iA (IntKind.wrap .i64 (gA+(1:Int))) dA aA eA fA bA cA
noncomputable def it3 (Kb2:Kont U El) (n:Nat):Kont U El:=iter nm3 (fun st' K'=>exec X (cdp [1,1,1,0,1,0,0] bd) (.seq none .d (.seq none .d (.seq (some nm4) (.block (.seq none .d (.seq none (.region [(1,8000),(1,500800003),(1,500800004),(1,500800005),(7,8000),(7,28001),(7,28002),(7,28003),(12,8000),(12,34000),(12,34001),(12,34002)]) .d))) .d))) st' K' (Eblk 0 (cutK nm2 Kb2) (fun _ _=>none)) RR) n
noncomputable def ct1:Kont U El:=fun st=>exec X (cdp [1,1,1] bd) (.seq (some nm2) (.seq none .d (.block (.loop nm3 (.seq none .d (.seq none .d (.seq (some nm4) (.block (.seq none .d (.seq none (.region [(1,8000),(1,500800003),(1,500800004),(1,500800005),(7,8000),(7,28001),(7,28002),(7,28003),(12,8000),(12,34000),(12,34001),(12,34002)]) .d))) .d)))))) .d) st RR (fun _ _=>none) RR
noncomputable def ct2:Kont U El:=fun st=>exec X (cdp [1,1,1,1] bd) .d st RR (fun _ _=>none) RR
noncomputable def ct4 (Kb2 Kb3:Kont U El):Kont U El:=fun st=>exec X (cdp [1,1,1,0,1,0,0,1,1,1] bd) .d st (cutK nm3 Kb3) (Eblk 0 (cutK nm2 Kb2) (fun _ _=>none)) RR
theorem P0:exec X (cdp [] bd) (.seq none .d (.seq none .d (.seq (some nm1) .d (.seq (some nm2) (.seq none .d (.block (.loop nm3 (.seq none .d (.seq none .d (.seq (some nm4) (.block (.seq none .d (.seq none (.region [(1,8000),(1,500800003),(1,500800004),(1,500800005),(7,8000),(7,28001),(7,28002),(7,28003),(12,8000),(12,34000),(12,34001),(12,34002)]) .d))) .d)))))) .d)))) (fr0) RR (fun _ _=>none) RR=sh0 (fun y0 y1 y2 y3 y4 y5=>(hid ct1) (fr1 y0 y1 y2 y3 y4 y5)):=by kernel_rfl
theorem P1 (dA aA eA fA bA cA):ct1 (fr1 dA aA eA fA bA cA)=sh1 dA aA eA fA bA cA (fun y0 y1 y2 y3 y4 y5 y6 y7 y8=>(hid (it3 (hid ct2) 100000)) (fr3 y0 y1 y2 y3 y4 y5 y6 y7 y8)):=by kernel_rfl
theorem P2 (dA aA eA fA bA cA):ct2 (fr2 dA aA eA fA bA cA)=sh2 dA aA eA fA bA cA:=by kernel_rfl
theorem P3 (hA iA gA dA aA eA fA bA cA) (Kb2 Kb3:Kont U El):exec X (cdp [1,1,1,0,1,0,0] bd) (.seq none .d (.seq none .d (.seq (some nm4) (.block (.seq none .d (.seq none (.region [(1,8000),(1,500800003),(1,500800004),(1,500800005),(7,8000),(7,28001),(7,28002),(7,28003),(12,8000),(12,34000),(12,34001),(12,34002)]) .d))) .d))) (fr3 hA iA gA dA aA eA fA bA cA) (cutK nm3 Kb3) (Eblk 0 (cutK nm2 Kb2) (fun _ _=>none)) RR=sh3 hA iA gA dA aA eA fA bA cA (fun y0 y1 y2 y3 y4 y5=>Kb2 (fr2 y0 y1 y2 y3 y4 y5)) (fun y0 y1 y2 y3 y4 y5 y6 y7 y8=>(hid (ct4 Kb2 Kb3)) (fr4 y0 y1 y2 y3 y4 y5 y6 y7 y8)):=by kernel_rfl
theorem P4 (hA iA gA dA aA eA fA bA cA) (Kb2 Kb3:Kont U El):ct4 Kb2 Kb3 (fr4 hA iA gA dA aA eA fA bA cA)=sh4 hA iA gA dA aA eA fA bA cA (fun y0 y1 y2 y3 y4 y5 y6 y7 y8=>Kb3 (fr3 y0 y1 y2 y3 y4 y5 y6 y7 y8)):=by kernel_rfl
noncomputable def f2 (dA:Int) (aA:Int) (eA:Int) (fA:List (Key×Bool)) (bA:List Msg) (cA:List Msg):R:=sh2 dA aA eA fA bA cA
noncomputable def f4 (k3:Y3) (hA:List Msg) (iA:Int) (gA:Int) (dA:Int) (aA:Int) (eA:Int) (fA:List (Key×Bool)) (bA:List Msg) (cA:List Msg):R:=sh4 hA iA gA dA aA eA fA bA cA k3
noncomputable def f3:Nat→Y3
  | 0=>fun _ _ _ _ _ _ _ _ _=>none
  | n+1=>fun hA iA gA dA aA eA fA bA cA=>sh3 hA iA gA dA aA eA fA bA cA f2 (f4 (f3 n))
noncomputable def f1 (dA:Int) (aA:Int) (eA:Int) (fA:List (Key×Bool)) (bA:List Msg) (cA:List Msg):R:=sh1 dA aA eA fA bA cA (f3 100000)
noncomputable def f0:R:=sh0 f1
theorem T2 (dA aA eA fA bA cA):(hid ct2) (fr2 dA aA eA fA bA cA)=f2 dA aA eA fA bA cA:=by
  refine (congrFun (hid_eq _) _).trans <| (P2 dA aA eA fA bA cA).trans ?_
  show _=sh2 dA aA eA fA bA cA
  rfl
theorem T4 (KL3:Kont U El) (k3:Y3) (h3:∀ hA iA gA dA aA eA fA bA cA,KL3 (fr3 hA iA gA dA aA eA fA bA cA)=k3 hA iA gA dA aA eA fA bA cA) (hA iA gA dA aA eA fA bA cA):(hid (ct4 (hid ct2) KL3)) (fr4 hA iA gA dA aA eA fA bA cA)=f4 k3 hA iA gA dA aA eA fA bA cA:=by
  refine (congrFun (hid_eq _) _).trans <| (P4 hA iA gA dA aA eA fA bA cA (hid ct2) KL3).trans ?_
  show _=sh4 hA iA gA dA aA eA fA bA cA k3
  simp only [h3]
theorem T3:∀ (n:Nat),∀ hA iA gA dA aA eA fA bA cA,it3 (hid ct2) n (fr3 hA iA gA dA aA eA fA bA cA)=f3 n hA iA gA dA aA eA fA bA cA:=by
  intro n
  induction n with
  | zero=>intros; rfl
  | succ n ih =>
    intro hA iA gA dA aA eA fA bA cA
    refine (P3 hA iA gA dA aA eA fA bA cA (hid ct2) (it3 (hid ct2) n)).trans ?_
    show _=sh3 hA iA gA dA aA eA fA bA cA f2 (f4 (f3 n))
    simp only [T2,T4 (it3 (hid ct2) n) (f3 n) ih]
theorem H3 (hA iA gA dA aA eA fA bA cA):hid (it3 (hid ct2) 100000) (fr3 hA iA gA dA aA eA fA bA cA)=f3 100000 hA iA gA dA aA eA fA bA cA:=(congrFun (hid_eq _) _).trans (T3 100000 hA iA gA dA aA eA fA bA cA)
theorem T1 (dA aA eA fA bA cA):(hid ct1) (fr1 dA aA eA fA bA cA)=f1 dA aA eA fA bA cA:=by
  refine (congrFun (hid_eq _) _).trans <| (P1 dA aA eA fA bA cA).trans ?_
  show _=sh1 dA aA eA fA bA cA (f3 100000)
  simp only [H3]
theorem T0:exec X bd (.seq none .d (.seq none .d (.seq (some nm1) .d (.seq (some nm2) (.seq none .d (.block (.loop nm3 (.seq none .d (.seq none .d (.seq (some nm4) (.block (.seq none .d (.seq none (.region [(1,8000),(1,500800003),(1,500800004),(1,500800005),(7,8000),(7,28001),(7,28002),(7,28003),(12,8000),(12,34000),(12,34001),(12,34002)]) .d))) .d)))))) .d)))) (fr0) RR (fun _ _=>none) RR=f0:=by
  refine (P0).trans ?_
  show _=sh0 f1
  simp only [T1]
theorem run:runFn X bd (.seq none .d (.seq none .d (.seq (some nm1) .d (.seq (some nm2) (.seq none .d (.block (.loop nm3 (.seq none .d (.seq none .d (.seq (some nm4) (.block (.seq none .d (.seq none (.region [(1,8000),(1,500800003),(1,500800004),(1,500800005),(7,8000),(7,28001),(7,28002),(7,28003),(12,8000),(12,34000),(12,34001),(12,34002)]) .d))) .d)))))) .d)))) nmR [0] [] []=f0:=T0
theorem s0 (n:Nat):f3 (n+1) [m0,m1,m2] 3 0 10 (-137438953472) (-68719476736) [] [] []=f3 n [m0,m1,m2] 3 1 10 (-3) 7 [(keyM m0,true)] [m0] []:=by
  have e:sortM (List.filter (fun m=>ilt (Msg.at_ m) (-137438953472)) [])=[]:=sortM_nil
  show sh3 [m0,m1,m2] 3 0 10 (-137438953472) (-68719476736) [] [] [] f2 (f4 (f3 n))=_
  unfold sh3
  rw [e]
  kernel_rfl
theorem s1 (n:Nat):f3 (n+1) [m0,m1,m2] 3 1 10 (-3) 7 [(keyM m0,true)] [m0] []=f3 n [m0,m1,m2] 3 2 10 2 12 [(keyM m0,true),(keyM m1,true)] [m0,m1] []:=by
  have e:sortM (List.filter (fun m=>ilt (Msg.at_ m) (-3)) [m0])=[]:=sortM_nil
  show sh3 [m0,m1,m2] 3 1 10 (-3) 7 [(keyM m0,true)] [m0] [] f2 (f4 (f3 n))=_
  unfold sh3
  rw [e]
  kernel_rfl
theorem s2 (n:Nat):f3 (n+1) [m0,m1,m2] 3 2 10 2 12 [(keyM m0,true),(keyM m1,true)] [m0,m1] []=f3 n [m0,m1,m2] 3 3 10 4 14 [(keyM m0,true),(keyM m1,true),(keyM m2,true)] [m0,m1] [m2]:=by
  have e:sortM (List.filter (fun m=>ilt (Msg.at_ m) 2) [m0,m1])=[]:=sortM_nil
  show sh3 [m0,m1,m2] 3 2 10 2 12 [(keyM m0,true),(keyM m1,true)] [m0,m1] [] f2 (f4 (f3 n))=_
  unfold sh3
  rw [e]
  kernel_rfl
theorem s3 (n:Nat):f3 (n+1) [m0,m1,m2] 3 3 10 4 14 [(keyM m0,true),(keyM m1,true),(keyM m2,true)] [m0,m1] [m2]=outB true:=by
  have e:sortM (List.filter (fun m=>ilt (Msg.at_ m) 4) [m0,m1])=[m1]:=sortM_one m1
  show sh2 10 4 14 [(keyM m0,true),(keyM m1,true),(keyM m2,true)] [m0,m1] [m2]=_
  unfold sh2
  rw [e]
  kernel_rfl
theorem f0_eq:f0=outB true:=by
  show f3 100000 [m0,m1,m2] 3 0 10 (-137438953472) (-68719476736) [] [] []=_
  exact (s0 99999).trans ((s1 99998).trans ((s2 99997).trans (s3 99996)))
theorem ok:CtxOk Try.prog X:=ctxOk tab spN (dpC ⟨fput.spOk,fput.spDet⟩ (dpC ⟨fmark.spOk,fmark.spDet⟩ (dpC ⟨fready.spOk,fready.spDet⟩ dpN)))
theorem okM:MOk Try.prog X:=mspecOf_ok _ (mpC (mcSp_ok ok newF.spOk) (mpC (mcSp_ok ok (orN_ok flateN.spOk flate.spOk)) (mpC (mcSp_ok ok (orN_ok freadyN.spOk fready.spOk)) mpN)))
theorem spec:CallSpec Try.prog E 9 [] (.bool (true)) [] :=
  runFn_sound ok okM Try.call9 Try.func9 (by kernel_rfl) (by kernel_rfl) (by kernel_rfl) (by show 0≤73; decide) (by decide) (by rfl) ((run).trans (f0_eq))
noncomputable def sp:Sp U El:=fun args k=>match args with
  | []=>k (.bool (true)) []
  | _=>none
theorem spOk:SpOk Try.prog E 9 sp where
  det:=fun vs=>by
    unfold sp
    split
    · exact ⟨some (_,_),fun _=>rfl⟩
    · exact ⟨none,fun _=>rfl⟩
  ok:=fun vs k r h=>by
    unfold sp at h
    split at h
    · exact ⟨_,_,spec,h⟩
    · cases h
end awake
end Go.Proofs.Ytkeplmpcijigaaa
