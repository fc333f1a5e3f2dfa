import Derived.Test.YthdimnlkcgchoaaGreatVO
namespace Go.Proofs.YthdimnlkcgchoaaGreat
set_option linter.all false
set_option maxRecDepth 100000
theorem has_lev {n:Net} {s:List UInt8} (h:hasN n s=true) {v:List Int} (hv:v.length=n.nds.length):inb (findZ (fun x=>x == s) 0 (n.nds.map Node.nn)) v.length=true:=by
 have h2:=find_has n s
 rw [h] at h2
 have h3:=iltN h2
 have h4:=findZ_range (fun x=>x == s) (namesL n) 0
 have h5:(namesL n).length=n.nds.length:=by simp [namesL]
 show inb (findZ (fun x=>x == s) 0 (namesL n)) v.length=true
 rcases h4 with h4 | ⟨h4,h6⟩
 ·omega
 ·simp only [inb,ile,ilt,Bool.and_eq_true,decide_eq_true_eq]
  omega
theorem known_at {l:List Rule} {n:Net} (hok:okN n=true) (hr:rulesB l=true) (hk:knownB l n=true) {v:List Int} (hv:v.length=n.nds.length):∀ r∈l,hasLevR n.nds v r=true:=fun r hm=>by
 have h1:=(ruleB_len ((rulesB_len hr).2 r hm)).1
 have h2:=List.all_eq_true.1 hk r hm
 simp only [knownR,Bool.and_eq_true] at h2
 simp only [hasLevR,Bool.and_eq_true]
 refine ⟨nleT (by omega),List.all_eq_true.2 fun c hc=>?_⟩
 simp only [hasLev,hasLevN,Bool.and_eq_true]
 exact ⟨okN_nds hok,has_lev (List.all_eq_true.1 h2.2 c hc) hv⟩
theorem known_corn {l:List Rule} {n:Net} (hok:okN n=true) (hr:rulesB l=true) (hk:knownB l n=true) (s:List UInt8):cornOk l n s l n.nds=true:=by
 have:=(rulesB_len hr).1
 simp only [cornOk,Bool.and_eq_true]
 exact ⟨nleT (by omega),List.all_eq_true.2 (known_at hok hr hk (by simp))⟩
noncomputable def compOk (l:List Rule) (n:Net) (s:List UInt8):Bool:=(givenZ l n == 0)&&(!(ilt (linkZ n s) 0)&&fewB l n s)
noncomputable def compB (l:List Rule) (n:Net) (s:List UInt8):Bool:=compOk l n s&&Option.isNone (gapO l n s l s n.nds)
noncomputable def compL (l:List Rule) (n:Net) (s:List UInt8):List Int:=bif compOk l n s then gapL l n s l s n.nds else []
noncomputable def compE (l:List Rule) (n:Net) (s:List UInt8):Int:=bif givenZ l n != 0 then givenZ l n else bif ilt (linkZ n s) 0 then 9 else bif fewB l n s then 0 else 6
noncomputable def outC (b:Bool) (v:List Int) (e:Int):R:=some (.tup [.bool b,.lst .int v,.int .i64 e],[])
namespace complete
noncomputable def bd:Code:=(Tryz.f25.body).getD .skip
noncomputable def X:Ctx U El:=⟨E,tds,zeros,eqs,specOf [(62,given.sp),(70,nLink.sp)],100000,39,dspecOf [],mspecOf [(71,(mcSp cornersC.sp))],fun _=>none⟩
noncomputable def nmR:Norm U:=⟨[],[6,7,8],[],[(7,.int)],[],[],[]⟩
noncomputable def RR:Kont U El:=fun st=>normK nmR st (retFin [6,7,8] [])
noncomputable def fr0 (l:List Rule) (n:Net) (s:List UInt8):St U El:=⟨[(0,(.lst .rule l)),(1,(.agg [(.lst .node n.nds),(.lst .link n.lks)])),(2,(.str s))],[]⟩
noncomputable def sh0 (l:List Rule) (n:Net) (s:List UInt8):R :=
 chk (okN n) (condB ((givenZ l n) != (0:Int)) (some ((.tup [(.bool false),(.lst .int ([]:List Int)),(.int .i64 (givenZ l n))]),[])) (chk (okN n) (condB (((bif netB n then (bif ilt (linkZ n s) 0 then 9 else 0) else 1)) != (0:Int)) (some ((.tup [(.bool false),(.lst .int ([]:List Int)),(.int .i64 ((bif netB n then (bif ilt (linkZ n s) 0 then 9 else 0) else 1)))]),[])) (chk ((okN n&&(rulesB l&&(true&&cornOk l n s l n.nds)))) (condB (!(fewB l n s)) (some ((.tup [(.bool false),(.lst .int ([]:List Int)),(.int .i64 (6:Int))]),[])) (some ((.tup [(.bool (bif fewB l n s then Option.isNone (gapO l n s l s n.nds) else true)),(.lst .int ((bif fewB l n s then gapL l n s l s n.nds else []))),(.int .i64 (0:Int))]),[])))))))
theorem P0 (l n s):exec X (cdp [] bd) .d (fr0 l n s) RR (fun _ _=>none) RR=sh0 l n s:=by kernel_rfl
noncomputable def f0 (l:List Rule) (n:Net) (s:List UInt8):R:=sh0 l n s
theorem T0 (l n s):exec X bd .d (fr0 l n s) RR (fun _ _=>none) RR=f0 l n s:=by
 refine (P0 l n s).trans ?_
 show _=sh0 l n s
 rfl
theorem run (l n s):runFn X bd .d nmR [6,7,8] [] [(.lst .rule l),(.agg [(.lst .node n.nds),(.lst .link n.lks)]),(.str s)]=f0 l n s:=T0 l n s
theorem f0_eq (l:List Rule) (n:Net) (s:List UInt8) (h:okN n=true):f0 l n s=outC (compB l n s) (compL l n s) (compE l n s):=by
 show sh0 l n s=_
 unfold sh0 compB compL compE compOk
 rw [h]
 rcases given_cases l n with ⟨e1,e2,e3⟩ | ⟨e1,e2,e3⟩
 ·obtain ⟨g1,g2,g3⟩:=given0 e1
  rw [e2,e3,g1,g2,known_corn h g1 g3 s]
  cases ilt (linkZ n s) 0 with
  | true=>rfl
  | false=>cases fewB l n s<;>rfl
 ·rw [e2,e3]; rfl
theorem ok:CtxOk Tryz.prog X:=ctxOk tab (spC given.spOk (spC nLink.spOk spN)) dpN
theorem okM:MOk Tryz.prog X:=mspecOf_ok _ (mpC (mcSp_ok ok cornersC.spOk) mpN)
theorem spec (l:List Rule) (n:Net) (s:List UInt8) (h:(okN n)=true):CallSpec Tryz.prog E 25 [(.lst .rule l),(.agg [(.lst .node n.nds),(.lst .link n.lks)]),(.str s)] (.tup [(.bool (compB l n s)),(.lst .int (compL l n s)),(.int .i64 (compE l n s))]) [] :=
 rfs ok okM Tryz.call25 Tryz.func25 ((run l n s).trans (f0_eq l n s h))
noncomputable def sp:Sp U El:=fun args k=>match args with
 | [.lst .rule l,.agg [.lst .node n_nds,.lst .link n_lks],.str s]=>chk (okN (⟨n_nds,n_lks⟩:Net)) (k (.tup [(.bool (compB l (⟨n_nds,n_lks⟩:Net) s)),(.lst .int (compL l (⟨n_nds,n_lks⟩:Net) s)),(.int .i64 (compE l (⟨n_nds,n_lks⟩:Net) s))]) [])
 | _=>none
theorem spOk:SpOk Tryz.prog E 25 sp:=⟨fun vs=>by unfold sp;split;exact det_c _ _ _;exact ⟨none,fun _=>rfl⟩,fun vs k r h=>by unfold sp at h;split at h;(obtain ⟨h1,h2⟩:=chk_some h;exact ⟨_,_,spec _ ⟨_,_⟩ _ h1,h2⟩);cases h⟩
end complete
noncomputable def exR:List Rule:=[⟨[97],[⟨[116],false,500⟩],[103],1000⟩,⟨[98],[⟨[116],false,700⟩],[103],0⟩]
noncomputable def exN:Net:=⟨[⟨[116],2,0,0,0,1000,[⟨0,0⟩,⟨1000,5000⟩],false,0⟩,⟨[111],3,0,0,0,0,[],false,0⟩],[⟨[103],[116],[111],3,0,0,0,[],100,100,[]⟩]⟩
namespace example_
noncomputable def bd:Code:=(Tryz.f56.body).getD .skip
noncomputable def X:Ctx U El:=⟨E,tds,zeros,eqs,specOf [],100000,20,dspecOf [],fun _=>none,fun _=>none⟩
noncomputable def nmR:Norm U:=⟨[(0,.rule)],[0,20],[0],[],[],[(20,0,.node),(20,1,.link)],[]⟩
noncomputable def RR:Kont U El:=fun st=>loadRes X 20 [(1,26)] 20 st fun st=>normK nmR st (retFin [0,20] [0])
noncomputable def fr0:St U El:=⟨[],[]⟩
noncomputable def sh0:R :=
 some ((.tup [(.ful 0),(.agg [(.lst .node ([(⟨([116]:List UInt8),(2:Int),(0:Int),(0:Int),(0:Int),(1000:Int),([(⟨(0:Int),(0:Int)⟩:Knot),(⟨(1000:Int),(5000:Int)⟩:Knot)]:List Knot),false,(0:Int)⟩:Node),(⟨([111]:List UInt8),(3:Int),(0:Int),(0:Int),(0:Int),(0:Int),[],false,(0:Int)⟩:Node)]:List Node)),(.lst .link ([(⟨([103]:List UInt8),([116]:List UInt8),([111]:List UInt8),(3:Int),(0:Int),(0:Int),(0:Int),([]:List UInt8),(100:Int),(100:Int),[]⟩:Lnk)]:List Lnk))])]),[(0,.rows .rule ([(⟨([97]:List UInt8),([(⟨([116]:List UInt8),false,(500:Int)⟩:Cnd)]:List Cnd),([103]:List UInt8),(1000:Int)⟩:Rule),(⟨([98]:List UInt8),([(⟨([116]:List UInt8),false,(700:Int)⟩:Cnd)]:List Cnd),([103]:List UInt8),(0:Int)⟩:Rule)]:List Rule))])
theorem P0:exec X (cdp [] bd) (.seq none .d (.seq none .d (.seq none (.region [(6,13),(6,16),(9,1)]) .d))) (fr0) RR (fun _ _=>none) RR=sh0:=by kernel_rfl
noncomputable def f0:R:=sh0
theorem T0:exec X bd (.seq none .d (.seq none .d (.seq none (.region [(6,13),(6,16),(9,1)]) .d))) (fr0) RR (fun _ _=>none) RR=f0:=by
 refine (P0).trans ?_
 show _=sh0
 rfl
theorem run:runFnC X bd (.seq none .d (.seq none .d (.seq none (.region [(6,13),(6,16),(9,1)]) .d))) nmR [(1,26)] [0,20] [0] []=f0:=T0
theorem f0_eq:f0=some (.tup [.ful 0,.agg [.lst .node exN.nds,.lst .link exN.lks]],[(0,.rows .rule exR)]):=rfl
theorem ok:CtxOk Tryz.prog X:=ctxOk tab spN dpN
theorem okM:MOk Tryz.prog X:=fun g sp h=>by cases h
theorem spec:CallSpec Tryz.prog E 56 [] (.tup [(.ful 0),(.agg [(.lst .node ((exN).nds)),(.lst .link ((exN).lks))])]) [(0,.rows .rule (exR))] :=
 runFnC_sound ok okM Tryz.call56 Tryz.func56 (by kernel_rfl) (by kernel_rfl) (by kernel_rfl) (by show 0≤20; decide) (by decide) (by rfl) ((run).trans (f0_eq))
noncomputable def sp:Sp U El:=fun args k=>match args with
 | []=>k (.tup [(.ful 0),(.agg [(.lst .node ((exN).nds)),(.lst .link ((exN).lks))])]) [(0,.rows .rule (exR))]
 | _=>none
theorem spOk:SpOk Tryz.prog E 56 sp:=⟨fun vs=>by unfold sp;split;exact ⟨some (_,_),fun _=>rfl⟩;exact ⟨none,fun _=>rfl⟩,fun vs k r h=>by unfold sp at h;split at h;exact ⟨_,_,spec,h⟩;cases h⟩
end example_
namespace awake
noncomputable def bd:Code:=(Tryz.f12.body).getD .skip
noncomputable def X:Ctx U El:=⟨E,tds,zeros,eqs,specOf [(14,witness.sp),(16,equalI.sp),(17,find.sp),(21,equalP.sp),(22,accepted.sp),(25,complete.sp),(56,example_.sp)],100000,90,dspecOf [],fun _=>none,fun _=>none⟩
noncomputable def nmR:Norm U:=⟨[],[0],[],[],[],[],[]⟩
noncomputable def RR:Kont U El:=fun st=>normK nmR st (retFin [0] [])
noncomputable def nm1:Norm U:=⟨[(3,.pair),(5,.int)],[1,2,3,4,5,6],[3,5,2],[(1,.rule)],[],[],[(2,0,.node),(2,1,.link)]⟩
abbrev Y1:=(List Rule)→(List Pair)→Int→(List Int)→Int→(List Node)→(List Lnk)→R
noncomputable def fr0:St U El:=⟨[],[]⟩
noncomputable def fr1 (l1:List Rule) (p3:List Pair) (e4:Int) (w5:List Int) (f6:Int) (bA:List Node) (cA:List Lnk):St U El:=⟨[(1,(.lst .rule l1)),(2,(.ptr 2 0)),(3,(.ful 3)),(4,(.int .i64 e4)),(5,(.ful 5)),(6,(.int .i64 f6))],[(3,(.rows .pair p3)),(5,(.rows .int w5)),(2,(.box 0 [(.lst .node bA),(.lst .link cA)]))]⟩
noncomputable def sh0 (k1:Y1):R :=
 chk (okN (exN)) (chk (okN (exN)) (chk (inb (0:Int) (List.length (exR))) (chk (nlt 0 (List.length (exR))&&true) (k1 (List.set (exR) 0 (⟨(List.getD (exR) 0 d_rule).rn,([(⟨([116]:List UInt8),true,(500:Int)⟩:Cnd)]:List Cnd),(List.getD (exR) 0 d_rule).rl,(List.getD (exR) 0 d_rule).rs⟩:Rule)) (findL (exR) (exN)) (givenZ (exR) (exN)) (witL (exR) (exN) (0:Int) (1:Int)) (witE (exR) (exN) (0:Int) (1:Int)) ((exN).nds) ((exN).lks)))))
noncomputable def sh1 (l1:List Rule) (p3:List Pair) (e4:Int) (w5:List Int) (f6:Int) (bA:List Node) (cA:List Lnk):R :=
 chk (okN (⟨bA,cA⟩:Net)) (chk (okN (⟨bA,cA⟩:Net)) (condB (e4 == (0:Int)) (chk (nle (List.length p3) 90000) (condB (eqP p3 ([(⟨(0:Int),(1:Int)⟩:Pair)]:List Pair)) (condB (f6 == (0:Int)) (chk (nle (List.length w5) 90000) (condB (eqI w5 ([(700:Int),(0:Int)]:List Int)) (condB ((givenZ l1 (⟨bA,cA⟩:Net)) == (0:Int)) (condB ((Int.ofNat (List.length (findL l1 (⟨bA,cA⟩:Net)))) == (0:Int)) (condB ((compE l1 (⟨bA,cA⟩:Net) ([103]:List UInt8)) == (0:Int)) (condB (!(compB l1 (⟨bA,cA⟩:Net) ([103]:List UInt8))) (chk (nle (List.length (compL l1 (⟨bA,cA⟩:Net) ([103]:List UInt8))) 90000) (condB (eqI (compL l1 (⟨bA,cA⟩:Net) ([103]:List UInt8)) ([(500:Int),(0:Int)]:List Int)) (chk (okN (⟨bA,cA⟩:Net)) (some ((.bool (accB l1 (⟨bA,cA⟩:Net))),[]))) (some ((.bool false),[])))) (some ((.bool false),[]))) (some ((.bool false),[]))) (some ((.bool false),[]))) (some ((.bool false),[]))) (some ((.bool false),[])))) (some ((.bool false),[]))) (some ((.bool false),[])))) (some ((.bool false),[]))))
noncomputable def ct1:Kont U El:=fun st=>exec X (cdp [1,1,1,1,1] bd) .d st RR (fun _ _=>none) RR
theorem P0:exec X (cdp [] bd) (.seq none .d (.seq none .d (.seq none .d (.seq none .d (.seq (some nm1) .d .d))))) (fr0) RR (fun _ _=>none) RR=sh0 (fun y0 y1 y2 y3 y4 y5 y6=>(hid ct1) (fr1 y0 y1 y2 y3 y4 y5 y6)):=by kernel_rfl
theorem P1 (l1 p3 e4 w5 f6 bA cA):ct1 (fr1 l1 p3 e4 w5 f6 bA cA)=sh1 l1 p3 e4 w5 f6 bA cA:=by kernel_rfl
noncomputable def f1 (l1:List Rule) (p3:List Pair) (e4:Int) (w5:List Int) (f6:Int) (bA:List Node) (cA:List Lnk):R:=sh1 l1 p3 e4 w5 f6 bA cA
noncomputable def f0:R:=sh0 f1
theorem T1 (l1 p3 e4 w5 f6 bA cA):(hid ct1) (fr1 l1 p3 e4 w5 f6 bA cA)=f1 l1 p3 e4 w5 f6 bA cA:=by
 refine (congrFun (hid_eq _) _).trans <| (P1 l1 p3 e4 w5 f6 bA cA).trans ?_
 show _=sh1 l1 p3 e4 w5 f6 bA cA
 rfl
theorem T0:exec X bd (.seq none .d (.seq none .d (.seq none .d (.seq none .d (.seq (some nm1) .d .d))))) (fr0) RR (fun _ _=>none) RR=f0:=by
 refine (P0).trans ?_
 show _=sh0 f1
 simp only [T1]
theorem run:runFn X bd (.seq none .d (.seq none .d (.seq none .d (.seq none .d (.seq (some nm1) .d .d))))) nmR [0] [] []=f0:=T0
theorem f0_eq:f0=outB true:=by kernel_rfl
theorem ok:CtxOk Tryz.prog X:=ctxOk tab (spC witness.spOk (spC equalI.spOk (spC find.spOk (spC equalP.spOk (spC accepted.spOk (spC complete.spOk (spC example_.spOk spN))))))) dpN
theorem okM:MOk Tryz.prog X:=fun g sp h=>by cases h
theorem spec:CallSpec Tryz.prog E 12 [] (.bool (true)) [] :=
 rfs ok okM Tryz.call12 Tryz.func12 ((run).trans (f0_eq))
noncomputable def sp:Sp U El:=fun args k=>match args with
 | []=>k (.bool (true)) []
 | _=>none
theorem spOk:SpOk Tryz.prog E 12 sp:=⟨fun vs=>by unfold sp;split;exact ⟨some (_,_),fun _=>rfl⟩;exact ⟨none,fun _=>rfl⟩,fun vs k r h=>by unfold sp at h;split at h;exact ⟨_,_,spec,h⟩;cases h⟩
end awake
end Go.Proofs.YthdimnlkcgchoaaGreat
