import Derived.Test.YtlkfbblapimhoaaGreatDoorRY
namespace Go.Proofs.YtlkfbblapimhoaaGreatDoor
set_option linter.all false
set_option maxRecDepth 100000
theorem takeD_mono (r:Rdr) (kd:Int):r.ra≤(takeD r kd).2.ra:=by
  unfold takeD
  cases r.rb || !((tokAt r.rt r.ra).kk == kd) with
  | true=>exact Int.le_refl _
  | false =>
    show r.ra≤bif kd == 5 then r.ra else r.ra+1
    cases kd == 5<;>simp<;>omega
theorem rwordD_mono (r:Rdr) (kd:Int) (x:List UInt8):r.ra≤(rwordD r kd x).ra:=by
 unfold rwordD
 cases r.rb || !(nextB r.rt r.ra kd x) with
 | true=>exact Int.le_refl _
 | false=>show r.ra≤r.ra+1; omega
theorem numQD_mono (r:Rdr):r.ra≤(numQD r).ra:=by
 show r.ra≤bif minD r then r.ra+1 else r.ra
 cases minD r<;>simp<;>omega
theorem numD_mono (r:Rdr):r.ra≤(numD r).2.ra:=by
  have h1:=numQD_mono r
  have h2:=takeD_mono (numQD r) 2
  unfold numD
  cases (takeD (numQD r) 2).2.rb with
  | true=>exact Int.le_trans h1 h2
  | false =>
    cases (takeD (numQD r) 2).1 == []||okD (takeD (numQD r) 2).1 with
    | true=>exact Int.le_trans h1 h2
    | false=>exact h1
theorem sgnD_mono (r:Rdr):r.ra≤(sgnD r).2.ra:=by
 unfold sgnD
 cases !r.rb&&nextB r.rt r.ra 3 [60] with
 | true=>show r.ra≤r.ra+1; omega
 | false=>exact rwordD_mono r _ _
theorem cndD_mono (r:Rdr):r.ra≤(cndD r).2.ra :=
 Int.le_trans (takeD_mono r 1) (Int.le_trans (sgnD_mono _) (numD_mono _))
namespace rcnd
noncomputable def bd:Code:=(Tryz.f94.body).getD .skip
noncomputable def X:Ctx U El:=⟨E,tds,zeros,eqs,specOf [(91,rwd.sp),(92,rtake.sp),(93,ris.sp),(95,rnum.sp)],100000,33,dspecOf [],fun _=>none,fun _=>none⟩
noncomputable def nmR:Norm U:=⟨[],[33,34],[],[],[],[(34,0,.tok)],[]⟩
noncomputable def RR:Kont U El:=fun st=>loadRes X 33 [(2,78),(3,107)] 33 st fun st=>normK nmR st (retFin [33,34] [])
noncomputable def nm1:Norm U:=⟨[],[1,2,3,4],[1,2,3,4],[],[],[],[(1,0,.tok)]⟩
abbrev Y1:=(List Tok)→Int→Bool→(List UInt8)→Bool→Int→Int→Bool→(List UInt8)→Bool→Int→R
noncomputable def fr0 (r:Rdr):St U El:=⟨[(0,(.agg [(.lst .tok r.rt),(.int .i64 r.ra),(.bool r.rb)]))],[]⟩
noncomputable def fr1 (bA:List Tok) (cA:Int) (aA:Bool) (fA:List UInt8) (mA:Bool) (gA:Int) (hA:Int) (iA:Bool) (eA:List UInt8) (dA:Bool) (jA:Int):St U El:=⟨[(1,(.ptr 1 0)),(2,(.ptr 2 0)),(3,(.ptr 3 0)),(4,(.ptr 4 0))],[(1,(.box 0 [(.lst .tok bA),(.int .i64 cA),(.bool aA)])),(2,(.box 0 [(.str fA),(.bool mA),(.int .i64 gA)])),(3,(.box 0 [.nils,(.int .i64 hA),(.bool iA)])),(4,(.box 0 [(.str eA),(.bool dA),(.int .i64 jA)]))]⟩
noncomputable def sh0 (r:Rdr) (k1:Y1):R :=
 chk (inRd r) (condB (!(((takeD r (1:Int)).2).rb)) (chk (inRd ((takeD r (1:Int)).2)) (condB (nextB (Rdr.rt ((takeD r (1:Int)).2)) (Rdr.ra ((takeD r (1:Int)).2)) (3:Int) ([60]:List UInt8)) (k1 (((takeD r (1:Int)).2).rt) (IntKind.wrap .i64 (((takeD r (1:Int)).2).ra+(1:Int))) (((takeD r (1:Int)).2).rb) ([]:List UInt8) false (0:Int) (0:Int) false ((takeD r (1:Int)).1) true (0:Int)) (chk (inRd ((takeD r (1:Int)).2)) (k1 ((rwordD ((takeD r (1:Int)).2) (3:Int) ([62,61]:List UInt8)).rt) ((rwordD ((takeD r (1:Int)).2) (3:Int) ([62,61]:List UInt8)).ra) ((rwordD ((takeD r (1:Int)).2) (3:Int) ([62,61]:List UInt8)).rb) ([]:List UInt8) false (0:Int) (0:Int) false ((takeD r (1:Int)).1) false (0:Int))))) (chk (inRd ((takeD r (1:Int)).2)) (k1 ((rwordD ((takeD r (1:Int)).2) (3:Int) ([62,61]:List UInt8)).rt) ((rwordD ((takeD r (1:Int)).2) (3:Int) ([62,61]:List UInt8)).ra) ((rwordD ((takeD r (1:Int)).2) (3:Int) ([62,61]:List UInt8)).rb) ([]:List UInt8) false (0:Int) (0:Int) false ((takeD r (1:Int)).1) false (0:Int))))
noncomputable def sh1 (bA:List Tok) (cA:Int) (aA:Bool) (fA:List UInt8) (mA:Bool) (gA:Int) (hA:Int) (iA:Bool) (eA:List UInt8) (dA:Bool) (jA:Int):R :=
 chk (okRd (⟨bA,cA,aA⟩:Rdr)) (some ((.tup [(.agg [(.str eA),(.bool dA),(.int .i64 ((numD (⟨bA,cA,aA⟩:Rdr)).1))]),(.agg [(.lst .tok (((numD (⟨bA,cA,aA⟩:Rdr)).2).rt)),(.int .i64 (((numD (⟨bA,cA,aA⟩:Rdr)).2).ra)),(.bool (((numD (⟨bA,cA,aA⟩:Rdr)).2).rb))])]),[]))
noncomputable def ct1:Kont U El:=fun st=>exec X (cdp [1,1,1,1] bd) (.seq none .d (.seq none (.region [(2,2),(3,3)]) .d)) st RR (fun _ _=>none) RR
theorem P0 (r):exec X (cdp [] bd) (.seq none .d (.seq none .d (.seq none .d (.seq (some nm1) .d (.seq none .d (.seq none (.region [(2,2),(3,3)]) .d)))))) (fr0 r) RR (fun _ _=>none) RR=sh0 r (fun y0 y1 y2 y3 y4 y5 y6 y7 y8 y9 y10=>(hid ct1) (fr1 y0 y1 y2 y3 y4 y5 y6 y7 y8 y9 y10)):=by kernel_rfl
theorem P1 (bA cA aA fA mA gA hA iA eA dA jA):ct1 (fr1 bA cA aA fA mA gA hA iA eA dA jA)=sh1 bA cA aA fA mA gA hA iA eA dA jA:=by kernel_rfl
noncomputable def f1 (bA:List Tok) (cA:Int) (aA:Bool) (fA:List UInt8) (mA:Bool) (gA:Int) (hA:Int) (iA:Bool) (eA:List UInt8) (dA:Bool) (jA:Int):R:=sh1 bA cA aA fA mA gA hA iA eA dA jA
noncomputable def f0 (r:Rdr):R:=sh0 r f1
theorem T1 (bA cA aA fA mA gA hA iA eA dA jA):(hid ct1) (fr1 bA cA aA fA mA gA hA iA eA dA jA)=f1 bA cA aA fA mA gA hA iA eA dA jA:=by
 refine (congrFun (hid_eq _) _).trans <| (P1 bA cA aA fA mA gA hA iA eA dA jA).trans ?_
 show _=sh1 bA cA aA fA mA gA hA iA eA dA jA
 rfl
theorem T0 (r):exec X bd (.seq none .d (.seq none .d (.seq none .d (.seq (some nm1) .d (.seq none .d (.seq none (.region [(2,2),(3,3)]) .d)))))) (fr0 r) RR (fun _ _=>none) RR=f0 r:=by
 refine (P0 r).trans ?_
 show _=sh0 r f1
 simp only [T1]
theorem run (r):runFnC X bd (.seq none .d (.seq none .d (.seq none .d (.seq (some nm1) .d (.seq none .d (.seq none (.region [(2,2),(3,3)]) .d)))))) nmR [(2,78),(3,107)] [33,34] [] [(.agg [(.lst .tok r.rt),(.int .i64 r.ra),(.bool r.rb)])]=f0 r:=T0 r
noncomputable def outC (c:Cnd×Rdr):R:=some (.tup [.agg [.str c.1.cn,.bool c.1.cb,.int .i64 c.1.cl],.agg [.lst .tok c.2.rt,.int .i64 c.2.ra,.bool c.2.rb]],[])
theorem f0_eq (r:Rdr) (h:okRd r=true):f0 r=outC (cndD r):=by
  have hR:=okRd_I h
  have hl:=(hR.2.len hR.1).1
  have ht:=hR.take (kd:=1) (by decide)
  have hs:=ht.1.sgn
  have hlt:=(ht.1.2.len ht.1.1).1
  have k1:∀ (q:Rdr) (w nd:List UInt8) (b b' x:Bool) (y z v:Int),OkR q→f1 q.rt q.ra q.rb w b y z x nd b' v=outC (⟨nd,b',(numD q).1⟩,(numD q).2):=fun q w nd b b' x y z v hq=>by
    show sh1 q.rt q.ra q.rb w b y z x nd b' v=_
    unfold sh1
    have:(⟨q.rt,q.ra,q.rb⟩:Rdr)=q:=rfl
    rw [this,hq.okr]
    rfl
  show sh0 r f1=_
  unfold sh0
  rw [hR.inr,ht.1.inr,wrapUp ht.1.2 hlt]
  simp only [chkT]
  have e:cndD r=(⟨(takeD r 1).1,(sgnD (takeD r 1).2).1,(numD (sgnD (takeD r 1).2).2).1⟩,(numD (sgnD (takeD r 1).2).2).2):=rfl
  rw [e]
  generalize (takeD r 1).1=nd at *
  generalize (takeD r 1).2=q at *
  unfold sgnD at hs ⊢
  cases hb:q.rb with
  | true =>
    rw [hb] at hs
    simp only [Bool.not_true,Bool.false_and,cond_false,condF] at hs ⊢
    exact k1 (rwordD q 3 [62,61]) _ _ _ _ _ _ _ _ hs.1
  | false =>
    rw [hb] at hs
    simp only [Bool.not_false,Bool.true_and,condT] at hs ⊢
    cases hn:nextB q.rt q.ra 3 [60] with
    | true =>
      rw [hn] at hs
      simp only [cond_true,condT] at hs ⊢
      exact k1 ⟨q.rt,q.ra+1,false⟩ _ _ _ _ _ _ _ _ hs.1
    | false =>
      rw [hn] at hs
      simp only [cond_false,condF] at hs ⊢
      exact k1 (rwordD q 3 [62,61]) _ _ _ _ _ _ _ _ hs.1
theorem ok:CtxOk Tryz.prog X:=ctxOk tab (spC rwd.spOk (spC rtake.spOk (spC ris.spOk (spC rnum.spOk spN)))) dpN
theorem okM:MOk Tryz.prog X:=fun g sp h=>by cases h
theorem spec (r:Rdr) (h:(okRd r)=true):CallSpec Tryz.prog E 94 [(.agg [(.lst .tok r.rt),(.int .i64 r.ra),(.bool r.rb)])] (.tup [(.agg [(.str (((cndD r).1).cn)),(.bool (((cndD r).1).cb)),(.int .i64 (((cndD r).1).cl))]),(.agg [(.lst .tok (((cndD r).2).rt)),(.int .i64 (((cndD r).2).ra)),(.bool (((cndD r).2).rb))])]) [] :=
 runFnC_sound ok okM Tryz.call94 Tryz.func94 (by kernel_rfl) (by kernel_rfl) (by kernel_rfl) (by show 1≤33; decide) (by decide) (by rfl) ((run r).trans (f0_eq r h))
noncomputable def sp:Sp U El:=fun args k=>match args with
 | [.agg [.lst .tok r_rt,.int .i64 r_ra,.bool r_rb]]=>chk (okRd (⟨r_rt,r_ra,r_rb⟩:Rdr)) (k (.tup [(.agg [(.str (((cndD (⟨r_rt,r_ra,r_rb⟩:Rdr)).1).cn)),(.bool (((cndD (⟨r_rt,r_ra,r_rb⟩:Rdr)).1).cb)),(.int .i64 (((cndD (⟨r_rt,r_ra,r_rb⟩:Rdr)).1).cl))]),(.agg [(.lst .tok (((cndD (⟨r_rt,r_ra,r_rb⟩:Rdr)).2).rt)),(.int .i64 (((cndD (⟨r_rt,r_ra,r_rb⟩:Rdr)).2).ra)),(.bool (((cndD (⟨r_rt,r_ra,r_rb⟩:Rdr)).2).rb))])]) [])
 | _=>none
theorem spOk:SpOk Tryz.prog E 94 sp:=⟨fun vs=>by unfold sp;split;exact det_c _ _ _;exact ⟨none,fun _=>rfl⟩,fun vs k r h=>by unfold sp at h;split at h;(obtain ⟨h1,h2⟩:=chk_some h;exact ⟨_,_,spec ⟨_,_,_⟩ h1,h2⟩);cases h⟩
end rcnd
namespace rrule
noncomputable def bd:Code:=(Tryz.f47.body).getD .skip
noncomputable def X:Ctx U El:=⟨E,tds,zeros,eqs,specOf [(91,rwd.sp),(92,rtake.sp),(93,ris.sp),(94,rcnd.sp),(95,rnum.sp)],100000,81,dspecOf [],fun _=>none,fun _=>none⟩
noncomputable def nmR:Norm U:=⟨[],[81,82],[],[],[],[(81,1,.cnd),(82,0,.tok)],[]⟩
noncomputable def RR:Kont U El:=fun st=>loadRes X 81 [(2,51),(3,107)] 81 st fun st=>normK nmR st (retFin [81,82] [])
noncomputable def nm1:Norm U:=⟨[],[1,2,3,4],[1,2,3,4,500000401],[],[(4,1,.cnd,500000401)],[],[(1,0,.tok)]⟩
noncomputable def nm2:Norm U:=⟨[],[1,2,3,4,5],[1,2,3,4,5,500000401],[],[(4,1,.cnd,500000401)],[],[(1,0,.tok)]⟩
noncomputable def nm3:Norm U:=⟨[],[1,2,3,4,5],[1,2,3,4,5,500000401],[],[(4,1,.cnd,500000401)],[],[(1,0,.tok)]⟩
abbrev Y1:=(List Tok)→Int→Bool→(List UInt8)→(List UInt8)→Int→Int→Bool→(List UInt8)→(List Cnd)→(List UInt8)→Int→R
abbrev Y2:=(List Tok)→Int→Bool→(List UInt8)→(List UInt8)→Int→Int→Bool→(List UInt8)→(List Cnd)→(List UInt8)→Int→Cnd→R
abbrev Y3:=(List Tok)→Int→Bool→(List UInt8)→(List UInt8)→Int→Int→Bool→(List UInt8)→(List Cnd)→(List UInt8)→Int→Cnd→R
noncomputable def fr0 (r:Rdr):St U El:=⟨[(0,(.agg [(.lst .tok r.rt),(.int .i64 r.ra),(.bool r.rb)]))],[]⟩
noncomputable def fr1 (bA:List Tok) (cA:Int) (aA:Bool) (fA:List UInt8) (gA:List UInt8) (kA:Int) (hA:Int) (iA:Bool) (eA:List UInt8) (dA:List Cnd) (jA:List UInt8) (lA:Int):St U El:=⟨[(1,(.ptr 1 0)),(2,(.ptr 2 0)),(3,(.ptr 3 0)),(4,(.ptr 4 0))],[(1,(.box 0 [(.lst .tok bA),(.int .i64 cA),(.bool aA)])),(2,(.box 0 [(.str fA),.nils,(.str gA),(.int .i64 kA)])),(3,(.box 0 [.nils,(.int .i64 hA),(.bool iA)])),(4,(.box 0 [(.str eA),(.ful 500000401),(.str jA),(.int .i64 lA)])),(500000401,(.rows .cnd dA))]⟩
noncomputable def fr2 (bA:List Tok) (cA:Int) (aA:Bool) (fA:List UInt8) (gA:List UInt8) (kA:Int) (hA:Int) (iA:Bool) (eA:List UInt8) (dA:List Cnd) (jA:List UInt8) (lA:Int) (b5:Cnd):St U El:=⟨[(1,(.ptr 1 0)),(2,(.ptr 2 0)),(3,(.ptr 3 0)),(4,(.ptr 4 0)),(5,(.ptr 5 0))],[(1,(.box 0 [(.lst .tok bA),(.int .i64 cA),(.bool aA)])),(2,(.box 0 [(.str fA),.nils,(.str gA),(.int .i64 kA)])),(3,(.box 0 [.nils,(.int .i64 hA),(.bool iA)])),(4,(.box 0 [(.str eA),(.ful 500000401),(.str jA),(.int .i64 lA)])),(5,(.box 0 [(.str b5.cn),(.bool b5.cb),(.int .i64 b5.cl)])),(500000401,(.rows .cnd dA))]⟩
noncomputable def fr3 (bA:List Tok) (cA:Int) (aA:Bool) (fA:List UInt8) (gA:List UInt8) (kA:Int) (hA:Int) (iA:Bool) (eA:List UInt8) (dA:List Cnd) (jA:List UInt8) (lA:Int) (b5:Cnd):St U El:=⟨[(1,(.ptr 1 0)),(2,(.ptr 2 0)),(3,(.ptr 3 0)),(4,(.ptr 4 0)),(5,(.ptr 5 0))],[(1,(.box 0 [(.lst .tok bA),(.int .i64 cA),(.bool aA)])),(2,(.box 0 [(.str fA),.nils,(.str gA),(.int .i64 kA)])),(3,(.box 0 [.nils,(.int .i64 hA),(.bool iA)])),(4,(.box 0 [(.str eA),(.ful 500000401),(.str jA),(.int .i64 lA)])),(5,(.box 0 [(.str b5.cn),(.bool b5.cb),(.int .i64 b5.cl)])),(500000401,(.rows .cnd dA))]⟩
noncomputable def sh0 (r:Rdr) (k1:Y1) (k2:Y2):R :=
 chk (inRd r) (chk (inRd (rwordD r (1:Int) ([114,117,108,101]:List UInt8))) (condB (!(((takeD (rwordD r (1:Int) ([114,117,108,101]:List UInt8)) (1:Int)).2).rb)) (chk (inRd ((takeD (rwordD r (1:Int) ([114,117,108,101]:List UInt8)) (1:Int)).2)) (condB (nextB (Rdr.rt ((takeD (rwordD r (1:Int) ([114,117,108,101]:List UInt8)) (1:Int)).2)) (Rdr.ra ((takeD (rwordD r (1:Int) ([114,117,108,101]:List UInt8)) (1:Int)).2)) (1:Int) ([119,104,101,110]:List UInt8)) (chk (okRd (⟨((takeD (rwordD r (1:Int) ([114,117,108,101]:List UInt8)) (1:Int)).2).rt,(IntKind.wrap .i64 (((takeD (rwordD r (1:Int) ([114,117,108,101]:List UInt8)) (1:Int)).2).ra+(1:Int))),((takeD (rwordD r (1:Int) ([114,117,108,101]:List UInt8)) (1:Int)).2).rb⟩:Rdr)) (chk (nle ((List.length ([]:List Cnd)+List.length ([((cndD (⟨((takeD (rwordD r (1:Int) ([114,117,108,101]:List UInt8)) (1:Int)).2).rt,(IntKind.wrap .i64 (((takeD (rwordD r (1:Int) ([114,117,108,101]:List UInt8)) (1:Int)).2).ra+(1:Int))),((takeD (rwordD r (1:Int) ([114,117,108,101]:List UInt8)) (1:Int)).2).rb⟩:Rdr)).1)]:List Cnd)) * 32) 140737488355328&&nle (List.length ([]:List Cnd)+List.length ([((cndD (⟨((takeD (rwordD r (1:Int) ([114,117,108,101]:List UInt8)) (1:Int)).2).rt,(IntKind.wrap .i64 (((takeD (rwordD r (1:Int) ([114,117,108,101]:List UInt8)) (1:Int)).2).ra+(1:Int))),((takeD (rwordD r (1:Int) ([114,117,108,101]:List UInt8)) (1:Int)).2).rb⟩:Rdr)).1)]:List Cnd)) 9223372036854775807) (k2 (((cndD (⟨((takeD (rwordD r (1:Int) ([114,117,108,101]:List UInt8)) (1:Int)).2).rt,(IntKind.wrap .i64 (((takeD (rwordD r (1:Int) ([114,117,108,101]:List UInt8)) (1:Int)).2).ra+(1:Int))),((takeD (rwordD r (1:Int) ([114,117,108,101]:List UInt8)) (1:Int)).2).rb⟩:Rdr)).2).rt) (((cndD (⟨((takeD (rwordD r (1:Int) ([114,117,108,101]:List UInt8)) (1:Int)).2).rt,(IntKind.wrap .i64 (((takeD (rwordD r (1:Int) ([114,117,108,101]:List UInt8)) (1:Int)).2).ra+(1:Int))),((takeD (rwordD r (1:Int) ([114,117,108,101]:List UInt8)) (1:Int)).2).rb⟩:Rdr)).2).ra) (((cndD (⟨((takeD (rwordD r (1:Int) ([114,117,108,101]:List UInt8)) (1:Int)).2).rt,(IntKind.wrap .i64 (((takeD (rwordD r (1:Int) ([114,117,108,101]:List UInt8)) (1:Int)).2).ra+(1:Int))),((takeD (rwordD r (1:Int) ([114,117,108,101]:List UInt8)) (1:Int)).2).rb⟩:Rdr)).2).rb) ([]:List UInt8) ([]:List UInt8) (0:Int) (0:Int) false ((takeD (rwordD r (1:Int) ([114,117,108,101]:List UInt8)) (1:Int)).1) (([]:List Cnd)++([((cndD (⟨((takeD (rwordD r (1:Int) ([114,117,108,101]:List UInt8)) (1:Int)).2).rt,(IntKind.wrap .i64 (((takeD (rwordD r (1:Int) ([114,117,108,101]:List UInt8)) (1:Int)).2).ra+(1:Int))),((takeD (rwordD r (1:Int) ([114,117,108,101]:List UInt8)) (1:Int)).2).rb⟩:Rdr)).1)]:List Cnd)) ([]:List UInt8) (0:Int) ((cndD (⟨((takeD (rwordD r (1:Int) ([114,117,108,101]:List UInt8)) (1:Int)).2).rt,(IntKind.wrap .i64 (((takeD (rwordD r (1:Int) ([114,117,108,101]:List UInt8)) (1:Int)).2).ra+(1:Int))),((takeD (rwordD r (1:Int) ([114,117,108,101]:List UInt8)) (1:Int)).2).rb⟩:Rdr)).1)))) (k1 (((takeD (rwordD r (1:Int) ([114,117,108,101]:List UInt8)) (1:Int)).2).rt) (((takeD (rwordD r (1:Int) ([114,117,108,101]:List UInt8)) (1:Int)).2).ra) (((takeD (rwordD r (1:Int) ([114,117,108,101]:List UInt8)) (1:Int)).2).rb) ([]:List UInt8) ([]:List UInt8) (0:Int) (0:Int) false ((takeD (rwordD r (1:Int) ([114,117,108,101]:List UInt8)) (1:Int)).1) ([]:List Cnd) ([]:List UInt8) (0:Int)))) (k1 (((takeD (rwordD r (1:Int) ([114,117,108,101]:List UInt8)) (1:Int)).2).rt) (((takeD (rwordD r (1:Int) ([114,117,108,101]:List UInt8)) (1:Int)).2).ra) (((takeD (rwordD r (1:Int) ([114,117,108,101]:List UInt8)) (1:Int)).2).rb) ([]:List UInt8) ([]:List UInt8) (0:Int) (0:Int) false ((takeD (rwordD r (1:Int) ([114,117,108,101]:List UInt8)) (1:Int)).1) ([]:List Cnd) ([]:List UInt8) (0:Int))))
noncomputable def sh1 (bA:List Tok) (cA:Int) (aA:Bool) (fA:List UInt8) (gA:List UInt8) (kA:Int) (hA:Int) (iA:Bool) (eA:List UInt8) (dA:List Cnd) (jA:List UInt8) (lA:Int):R :=
 chk (inRd (⟨bA,cA,aA⟩:Rdr)) (chk (inRd (rwordD (⟨bA,cA,aA⟩:Rdr) (1:Int) ([115,101,116]:List UInt8))) (chk (inRd ((takeD (rwordD (⟨bA,cA,aA⟩:Rdr) (1:Int) ([115,101,116]:List UInt8)) (1:Int)).2)) (chk (okRd (rwordD ((takeD (rwordD (⟨bA,cA,aA⟩:Rdr) (1:Int) ([115,101,116]:List UInt8)) (1:Int)).2) (1:Int) ([116,111]:List UInt8))) (chk (inRd ((numD (rwordD ((takeD (rwordD (⟨bA,cA,aA⟩:Rdr) (1:Int) ([115,101,116]:List UInt8)) (1:Int)).2) (1:Int) ([116,111]:List UInt8))).2)) (some ((.tup [(.agg [(.str eA),(.lst .cnd dA),(.str ((takeD (rwordD (⟨bA,cA,aA⟩:Rdr) (1:Int) ([115,101,116]:List UInt8)) (1:Int)).1)),(.int .i64 ((numD (rwordD ((takeD (rwordD (⟨bA,cA,aA⟩:Rdr) (1:Int) ([115,101,116]:List UInt8)) (1:Int)).2) (1:Int) ([116,111]:List UInt8))).1))]),(.agg [(.lst .tok (((takeD ((numD (rwordD ((takeD (rwordD (⟨bA,cA,aA⟩:Rdr) (1:Int) ([115,101,116]:List UInt8)) (1:Int)).2) (1:Int) ([116,111]:List UInt8))).2) (4:Int)).2).rt)),(.int .i64 (((takeD ((numD (rwordD ((takeD (rwordD (⟨bA,cA,aA⟩:Rdr) (1:Int) ([115,101,116]:List UInt8)) (1:Int)).2) (1:Int) ([116,111]:List UInt8))).2) (4:Int)).2).ra)),(.bool (((takeD ((numD (rwordD ((takeD (rwordD (⟨bA,cA,aA⟩:Rdr) (1:Int) ([115,101,116]:List UInt8)) (1:Int)).2) (1:Int) ([116,111]:List UInt8))).2) (4:Int)).2).rb))])]),[]))))))
noncomputable def sh2 (bA:List Tok) (cA:Int) (aA:Bool) (fA:List UInt8) (gA:List UInt8) (kA:Int) (hA:Int) (iA:Bool) (eA:List UInt8) (dA:List Cnd) (jA:List UInt8) (lA:Int) (b5:Cnd) (k1:Y1) (k3:Y3):R :=
 condB (!aA) (chk (inRd (⟨bA,cA,aA⟩:Rdr)) (condB (nextB (Rdr.rt (⟨bA,cA,aA⟩:Rdr)) (Rdr.ra (⟨bA,cA,aA⟩:Rdr)) (1:Int) ([97,110,100]:List UInt8)) (k3 bA cA aA fA gA kA hA iA eA dA jA lA b5) (k1 bA cA aA fA gA kA hA iA eA dA jA lA))) (k1 bA cA aA fA gA kA hA iA eA dA jA lA)
noncomputable def sh3 (bA:List Tok) (cA:Int) (aA:Bool) (fA:List UInt8) (gA:List UInt8) (kA:Int) (hA:Int) (iA:Bool) (eA:List UInt8) (dA:List Cnd) (jA:List UInt8) (lA:Int) (b5:Cnd) (k2:Y2):R :=
 chk (okRd (⟨bA,(IntKind.wrap .i64 (cA+(1:Int))),aA⟩:Rdr)) (chk (nle ((List.length dA+List.length ([((cndD (⟨bA,(IntKind.wrap .i64 (cA+(1:Int))),aA⟩:Rdr)).1)]:List Cnd)) * 32) 140737488355328&&nle (List.length dA+List.length ([((cndD (⟨bA,(IntKind.wrap .i64 (cA+(1:Int))),aA⟩:Rdr)).1)]:List Cnd)) 9223372036854775807) (k2 (((cndD (⟨bA,(IntKind.wrap .i64 (cA+(1:Int))),aA⟩:Rdr)).2).rt) (((cndD (⟨bA,(IntKind.wrap .i64 (cA+(1:Int))),aA⟩:Rdr)).2).ra) (((cndD (⟨bA,(IntKind.wrap .i64 (cA+(1:Int))),aA⟩:Rdr)).2).rb) fA gA kA hA iA eA (dA++([((cndD (⟨bA,(IntKind.wrap .i64 (cA+(1:Int))),aA⟩:Rdr)).1)]:List Cnd)) jA lA ((cndD (⟨bA,(IntKind.wrap .i64 (cA+(1:Int))),aA⟩:Rdr)).1)))
noncomputable def it2 (Kb1:Kont U El) (n:Nat):Kont U El:=iter nm2 (fun st' K'=>exec X (cdp [1,1,1,1,0,1,0,1,1,1,1,0,0] bd) (.seq (some nm3) .d .d) st' K' (Eblk 0 (cutK nm1 Kb1) (fun _ _=>none)) RR) n
noncomputable def ct1:Kont U El:=fun st=>exec X (cdp [1,1,1,1,1] bd) (.seq none .d (.seq none .d (.seq none .d (.seq none .d (.seq none .d (.seq none (.region [(2,2),(3,3)]) .d)))))) st RR (fun _ _=>none) RR
noncomputable def ct3 (Kb1 Kb2:Kont U El):Kont U El:=fun st=>exec X (cdp [1,1,1,1,0,1,0,1,1,1,1,0,0,1] bd) .d st (cutK nm2 Kb2) (Eblk 0 (cutK nm1 Kb1) (fun _ _=>none)) RR
theorem P0 (r):exec X (cdp [] bd) (.seq none .d (.seq none .d (.seq none .d (.seq none .d (.seq (some nm1) (.seq none .d (.cond (.seq none .d (.seq none .d (.seq none .d (.seq none .d (.block (.loop nm2 (.seq (some nm3) .d .d))))))) .d)) (.seq none .d (.seq none .d (.seq none .d (.seq none .d (.seq none .d (.seq none (.region [(2,2),(3,3)]) .d))))))))))) (fr0 r) RR (fun _ _=>none) RR=sh0 r (fun y0 y1 y2 y3 y4 y5 y6 y7 y8 y9 y10 y11=>(hid ct1) (fr1 y0 y1 y2 y3 y4 y5 y6 y7 y8 y9 y10 y11)) (fun y0 y1 y2 y3 y4 y5 y6 y7 y8 y9 y10 y11 y12=>(hid (it2 (hid ct1) 100000)) (fr2 y0 y1 y2 y3 y4 y5 y6 y7 y8 y9 y10 y11 y12)):=by kernel_rfl
theorem P1 (bA cA aA fA gA kA hA iA eA dA jA lA):ct1 (fr1 bA cA aA fA gA kA hA iA eA dA jA lA)=sh1 bA cA aA fA gA kA hA iA eA dA jA lA:=by kernel_rfl
theorem P2 (bA cA aA fA gA kA hA iA eA dA jA lA b5) (Kb1 Kb2:Kont U El):exec X (cdp [1,1,1,1,0,1,0,1,1,1,1,0,0] bd) (.seq (some nm3) .d .d) (fr2 bA cA aA fA gA kA hA iA eA dA jA lA b5) (cutK nm2 Kb2) (Eblk 0 (cutK nm1 Kb1) (fun _ _=>none)) RR=sh2 bA cA aA fA gA kA hA iA eA dA jA lA b5 (fun y0 y1 y2 y3 y4 y5 y6 y7 y8 y9 y10 y11=>Kb1 (fr1 y0 y1 y2 y3 y4 y5 y6 y7 y8 y9 y10 y11)) (fun y0 y1 y2 y3 y4 y5 y6 y7 y8 y9 y10 y11 y12=>(hid (ct3 Kb1 Kb2)) (fr3 y0 y1 y2 y3 y4 y5 y6 y7 y8 y9 y10 y11 y12)):=by kernel_rfl
theorem P3 (bA cA aA fA gA kA hA iA eA dA jA lA b5) (Kb1 Kb2:Kont U El):ct3 Kb1 Kb2 (fr3 bA cA aA fA gA kA hA iA eA dA jA lA b5)=sh3 bA cA aA fA gA kA hA iA eA dA jA lA b5 (fun y0 y1 y2 y3 y4 y5 y6 y7 y8 y9 y10 y11 y12=>Kb2 (fr2 y0 y1 y2 y3 y4 y5 y6 y7 y8 y9 y10 y11 y12)):=by kernel_rfl
noncomputable def f1 (bA:List Tok) (cA:Int) (aA:Bool) (fA:List UInt8) (gA:List UInt8) (kA:Int) (hA:Int) (iA:Bool) (eA:List UInt8) (dA:List Cnd) (jA:List UInt8) (lA:Int):R:=sh1 bA cA aA fA gA kA hA iA eA dA jA lA
noncomputable def f3 (k2:Y2) (bA:List Tok) (cA:Int) (aA:Bool) (fA:List UInt8) (gA:List UInt8) (kA:Int) (hA:Int) (iA:Bool) (eA:List UInt8) (dA:List Cnd) (jA:List UInt8) (lA:Int) (b5:Cnd):R:=sh3 bA cA aA fA gA kA hA iA eA dA jA lA b5 k2
noncomputable def f2:Nat→Y2
 | 0=>fun _ _ _ _ _ _ _ _ _ _ _ _ _=>none
 | n+1=>fun bA cA aA fA gA kA hA iA eA dA jA lA b5=>sh2 bA cA aA fA gA kA hA iA eA dA jA lA b5 f1 (f3 (f2 n))
noncomputable def f0 (r:Rdr):R:=sh0 r f1 (f2 100000)
theorem T1 (bA cA aA fA gA kA hA iA eA dA jA lA):(hid ct1) (fr1 bA cA aA fA gA kA hA iA eA dA jA lA)=f1 bA cA aA fA gA kA hA iA eA dA jA lA:=by
 refine (congrFun (hid_eq _) _).trans <| (P1 bA cA aA fA gA kA hA iA eA dA jA lA).trans ?_
 show _=sh1 bA cA aA fA gA kA hA iA eA dA jA lA
 rfl
theorem T3 (KL2:Kont U El) (k2:Y2) (h2:∀ bA cA aA fA gA kA hA iA eA dA jA lA b5,KL2 (fr2 bA cA aA fA gA kA hA iA eA dA jA lA b5)=k2 bA cA aA fA gA kA hA iA eA dA jA lA b5) (bA cA aA fA gA kA hA iA eA dA jA lA b5):(hid (ct3 (hid ct1) KL2)) (fr3 bA cA aA fA gA kA hA iA eA dA jA lA b5)=f3 k2 bA cA aA fA gA kA hA iA eA dA jA lA b5:=by
 refine (congrFun (hid_eq _) _).trans <| (P3 bA cA aA fA gA kA hA iA eA dA jA lA b5 (hid ct1) KL2).trans ?_
 show _=sh3 bA cA aA fA gA kA hA iA eA dA jA lA b5 k2
 simp only [h2]
theorem T2:∀ (n:Nat),∀ bA cA aA fA gA kA hA iA eA dA jA lA b5,it2 (hid ct1) n (fr2 bA cA aA fA gA kA hA iA eA dA jA lA b5)=f2 n bA cA aA fA gA kA hA iA eA dA jA lA b5:=by
  intro n
  induction n with
  | zero=>intros; rfl
  | succ n ih =>
    intro bA cA aA fA gA kA hA iA eA dA jA lA b5
    refine (P2 bA cA aA fA gA kA hA iA eA dA jA lA b5 (hid ct1) (it2 (hid ct1) n)).trans ?_
    show _=sh2 bA cA aA fA gA kA hA iA eA dA jA lA b5 f1 (f3 (f2 n))
    simp only [T1,T3 (it2 (hid ct1) n) (f2 n) ih]
theorem H2 (bA cA aA fA gA kA hA iA eA dA jA lA b5):hid (it2 (hid ct1) 100000) (fr2 bA cA aA fA gA kA hA iA eA dA jA lA b5)=f2 100000 bA cA aA fA gA kA hA iA eA dA jA lA b5:=(congrFun (hid_eq _) _).trans (T2 100000 bA cA aA fA gA kA hA iA eA dA jA lA b5)
theorem T0 (r):exec X bd (.seq none .d (.seq none .d (.seq none .d (.seq none .d (.seq (some nm1) (.seq none .d (.cond (.seq none .d (.seq none .d (.seq none .d (.seq none .d (.block (.loop nm2 (.seq (some nm3) .d .d))))))) .d)) (.seq none .d (.seq none .d (.seq none .d (.seq none .d (.seq none .d (.seq none (.region [(2,2),(3,3)]) .d))))))))))) (fr0 r) RR (fun _ _=>none) RR=f0 r:=by
 refine (P0 r).trans ?_
 show _=sh0 r f1 (f2 100000)
 simp only [T1,H2]
theorem run (r):runFnC X bd (.seq none .d (.seq none .d (.seq none .d (.seq none .d (.seq (some nm1) (.seq none .d (.cond (.seq none .d (.seq none .d (.seq none .d (.seq none .d (.block (.loop nm2 (.seq (some nm3) .d .d))))))) .d)) (.seq none .d (.seq none .d (.seq none .d (.seq none .d (.seq none .d (.seq none (.region [(2,2),(3,3)]) .d))))))))))) nmR [(2,51),(3,107)] [81,82] [] [(.agg [(.lst .tok r.rt),(.int .i64 r.ra),(.bool r.rb)])]=f0 r:=T0 r
noncomputable def outL (c:Rule×Rdr):R:=some (.tup [.agg [.str c.1.rn,.lst .cnd c.1.rw,.str c.1.rl,.int .i64 c.1.rs],.agg [.lst .tok c.2.rt,.int .i64 c.2.ra,.bool c.2.rb]],[])
theorem f1_eq (q:Rdr) (a b:List UInt8) (c d:Int) (e:Bool) (nm:List UInt8) (w:List Cnd) (x:List UInt8) (y:Int) (hq:OkR q):f1 q.rt q.ra q.rb a b c d e nm w x y=outL (tailD (w,q) nm):=by
 have h1:=hq.word (kd:=1) (x:=[115,101,116]) (by decide)
 have h2:=h1.1.take (kd:=1) (by decide)
 have h3:=h2.1.word (kd:=1) (x:=[116,111]) (by decide)
 have h4:=h3.1.num
 show sh1 q.rt q.ra q.rb a b c d e nm w x y=_
 unfold sh1
 have:(⟨q.rt,q.ra,q.rb⟩:Rdr)=q:=rfl
 rw [this,hq.inr,h1.1.inr,h2.1.inr,h3.1.okr,h4.1.inr]
 rfl
theorem loop (a b : List UInt8) (c d : Int) (e : Bool) (nm x : List UInt8) (y : Int) : ∀ (m n : Nat) (r : Rdr) (acc : List Cnd) (z : Cnd), OkR r → (r.rb = false → Int.ofNat r.rt.length < Int.ofNat m + r.ra) → acc.length ≤ r.ra.toNat → m + 1 ≤ n →
    f2 n r.rt r.ra r.rb a b c d e nm acc x y z=f1 (cndsD m r acc).2.rt (cndsD m r acc).2.ra (cndsD m r acc).2.rb a b c d e nm (cndsD m r acc).1 x y:=by
  intro m
  induction m with
  | zero =>
    intro n r acc z hr hm hacc hn
    obtain ⟨n,rfl⟩:∃ n',n=n'+1:=⟨n - 1,by omega⟩
    have hb:r.rb=true:=by
      cases hb:r.rb with
      | true=>rfl
      | false=>have:=hm hb; have:=hr.2.2; simp only [Int.ofNat_eq_natCast] at *; omega
    show sh2 r.rt r.ra r.rb a b c d e nm acc x y z f1 (f3 (f2 n))=_
    unfold sh2 cndsD
    rw [hb]
    rfl
  | succ m ih =>
    intro n r acc z hr hm hacc hn
    obtain ⟨n,rfl⟩:∃ n',n=n'+1:=⟨n - 1,by omega⟩
    have hlen:=hr.2.len hr.1
    show sh2 r.rt r.ra r.rb a b c d e nm acc x y z f1 (f3 (f2 n))=_
    unfold sh2 cndsD
    have hrr:(⟨r.rt,r.ra,r.rb⟩:Rdr)=r:=rfl
    rw [hrr,hr.inr]
    cases hb:r.rb with
    | true=>simp only [Bool.not_true,condF,Bool.false_and,cond_false]; rw [hb]
    | false =>
      simp only [Bool.not_false,condT,Bool.true_and,chkT]
      cases hx:nextB r.rt r.ra 1 [97,110,100] with
      | false=>simp only [condF,cond_false]; rw [hb]
      | true =>
        simp only [condT,cond_true]
        have hu:OkR (upD r):=hr.up (kd:=1) (by decide) hx
        have hc:=hu.cnd
        have hmono:=cndD_mono (upD r)
        have hup:(upD r).ra=r.ra+1:=rfl
        show sh3 r.rt r.ra false a b c d e nm acc x y z (f2 n)=_
        unfold sh3
        rw [wrapUp hr.2 hlen.1]
        have hud:(⟨r.rt,r.ra+1,false⟩:Rdr)=upD r:=by unfold upD; rw [hb]
        rw [hud,hu.okr,nleT (by simp; omega),nleT (by simp; omega)]
        simp only [Bool.and_self,chkT]
        have hm:=hm hb
        refine ih n (cndD (upD r)).2 (acc++[(cndD (upD r)).1]) (cndD (upD r)).1 hc.1 (fun _=>?_) (by simp; omega) (by omega)
        rw [hc.2]
        show Int.ofNat r.rt.length < _
        simp only [Int.ofNat_eq_natCast] at hm ⊢
        omega
theorem f0_eq (r:Rdr) (h:okRd r=true):f0 r=outL (rulD r):=by
  have hR:=okRd_I h
  have h1:=hR.word (kd:=1) (x:=[114,117,108,101]) (by decide)
  have h2:=h1.1.take (kd:=1) (by decide)
  have hlen:=h2.1.2.len h2.1.1
  show sh0 r f1 (f2 100000)=_
  unfold sh0
  have e:rulD r=tailD (whenD (takeD (rwordD r 1 [114,117,108,101]) 1).2) (takeD (rwordD r 1 [114,117,108,101]) 1).1:=rfl
  rw [e,hR.inr,h1.1.inr]
  generalize (takeD (rwordD r 1 [114,117,108,101]) 1).1=nm at *
  generalize (takeD (rwordD r 1 [114,117,108,101]) 1).2=q at *
  have hw:=h2.1.whenR
  simp only [chkT]
  rw [h2.1.inr,wrapUp h2.1.2 hlen.1]
  simp only [chkT]
  unfold whenD at hw ⊢
  cases hb:q.rb with
  | true =>
    rw [hb] at hw
    simp only [Bool.not_true,condF,Bool.false_and,cond_false] at hw ⊢
    have:=f1_eq q [] [] 0 0 false nm [] [] 0 h2.1
    rw [hb] at this
    exact this
  | false =>
    rw [hb] at hw
    simp only [Bool.not_false,condT,Bool.true_and] at hw ⊢
    cases hn:nextB q.rt q.ra 1 [119,104,101,110] with
    | false =>
      rw [hn] at hw
      simp only [condF,cond_false] at hw ⊢
      have:=f1_eq q [] [] 0 0 false nm [] [] 0 h2.1
      rw [hb] at this
      exact this
    | true =>
      rw [hn] at hw
      simp only [condT,cond_true] at hw ⊢
      have hu:OkR (upD q):=h2.1.up (kd:=1) (by decide) hn
      have hc:=hu.cnd
      have hud:(⟨q.rt,q.ra+1,false⟩:Rdr)=upD q:=by unfold upD; rw [hb]
      rw [hud,hu.okr,nleT (by simp),nleT (by simp)]
      simp only [Bool.and_self,chkT,List.nil_append]
      have hmono:=cndD_mono (upD q)
      have hup:(upD q).ra=q.ra+1:=rfl
      rw [loop [] [] 0 0 false nm [] 0 (q.rt.length+1) 100000 (cndD (upD q)).2 [(cndD (upD q)).1] (cndD (upD q)).1 hc.1 (fun _=>by rw [hc.2]; show Int.ofNat q.rt.length < _; have:=hc.1.2.1; simp only [Int.ofNat_eq_natCast]; omega) (by simp; omega) (by omega)]
      exact f1_eq _ _ _ _ _ _ _ _ _ _ hw.1
theorem ok:CtxOk Tryz.prog X:=ctxOk tab (spC rwd.spOk (spC rtake.spOk (spC ris.spOk (spC rcnd.spOk (spC rnum.spOk spN))))) dpN
theorem okM:MOk Tryz.prog X:=fun g sp h=>by cases h
theorem spec (r:Rdr) (h:(okRd r)=true):CallSpec Tryz.prog E 47 [(.agg [(.lst .tok r.rt),(.int .i64 r.ra),(.bool r.rb)])] (.tup [(.agg [(.str (((rulD r).1).rn)),(.lst .cnd (((rulD r).1).rw)),(.str (((rulD r).1).rl)),(.int .i64 (((rulD r).1).rs))]),(.agg [(.lst .tok (((rulD r).2).rt)),(.int .i64 (((rulD r).2).ra)),(.bool (((rulD r).2).rb))])]) [] :=
 runFnC_sound ok okM Tryz.call47 Tryz.func47 (by kernel_rfl) (by kernel_rfl) (by kernel_rfl) (by show 1≤81; decide) (by decide) (by rfl) ((run r).trans (f0_eq r h))
noncomputable def sp:Sp U El:=fun args k=>match args with
 | [.agg [.lst .tok r_rt,.int .i64 r_ra,.bool r_rb]]=>chk (okRd (⟨r_rt,r_ra,r_rb⟩:Rdr)) (k (.tup [(.agg [(.str (((rulD (⟨r_rt,r_ra,r_rb⟩:Rdr)).1).rn)),(.lst .cnd (((rulD (⟨r_rt,r_ra,r_rb⟩:Rdr)).1).rw)),(.str (((rulD (⟨r_rt,r_ra,r_rb⟩:Rdr)).1).rl)),(.int .i64 (((rulD (⟨r_rt,r_ra,r_rb⟩:Rdr)).1).rs))]),(.agg [(.lst .tok (((rulD (⟨r_rt,r_ra,r_rb⟩:Rdr)).2).rt)),(.int .i64 (((rulD (⟨r_rt,r_ra,r_rb⟩:Rdr)).2).ra)),(.bool (((rulD (⟨r_rt,r_ra,r_rb⟩:Rdr)).2).rb))])]) [])
 | _=>none
theorem spOk:SpOk Tryz.prog E 47 sp:=⟨fun vs=>by unfold sp;split;exact det_c _ _ _;exact ⟨none,fun _=>rfl⟩,fun vs k r h=>by unfold sp at h;split at h;(obtain ⟨h1,h2⟩:=chk_some h;exact ⟨_,_,spec ⟨_,_,_⟩ h1,h2⟩);cases h⟩
end rrule
end Go.Proofs.YtlkfbblapimhoaaGreatDoor
