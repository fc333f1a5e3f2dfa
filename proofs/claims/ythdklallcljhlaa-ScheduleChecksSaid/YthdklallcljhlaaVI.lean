/- The law ScheduleChecks: its own run comes to true. -/
import Derived.Test.YthdklallcljhlaaVH
import Derived.Test.YthdklallcljhlaaAW
namespace Go.Proofs.Ythdklallcljhlaa
set_option linter.unusedSectionVars false
set_option linter.unusedSimpArgs false
set_option linter.unusedVariables false
set_option maxRecDepth 100000
namespace lawChecks
noncomputable def bd:Code:=(Try.f3.body).getD .skip
noncomputable def X:Ctx U El:=⟨E,tds,zeros,eqs,specOf [(9,awake.sp),(10,large.sp),(11,check.sp),(12,rcheck.sp),(13,valid.sp),(14,rvalid.sp)],100000,51,dspecOf [],fun _=>none⟩
noncomputable def nmR:Norm U:=⟨[],[6],[],[],[],[],[]⟩
noncomputable def RR:Kont U El:=fun st=>normK nmR st (retFin [6] [])
noncomputable def nm1:Norm U:=⟨[],[0,1,2],[],[],[],[],[]⟩
abbrev Y1:=(List Work)→Int→(List Slot)→R
noncomputable def fr0 (l:List Work) (crews:Int) (p:List Slot):St U El:=⟨[(0,(.lst .work l)),(1,(.int .i64 crews)),(2,(.lst .slot p))],[]⟩
noncomputable def fr1 (l0:List Work) (aA:Int) (p2:List Slot):St U El:=⟨[(0,(.lst .work l0)),(1,(.int .i64 aA)),(2,(.lst .slot p2))],[]⟩
noncomputable def sh0 (l:List Work) (crews:Int) (p:List Slot) (k1:Y1):R :=
  condB (!(true)) (some ((.bool false),[])) (condB (largeB l) (some ((.bool true),[])) (condB (ilt (20:Int) (Int.ofNat (List.length p))) (some ((.bool true),[])) (k1 l crews p)))
noncomputable def sh1 (l0:List Work) (aA:Int) (p2:List Slot):R :=
  chk (okV l0) (chk (okV l0) (chk (okV l0) (chk (okV l0) (condB ((validB l0 aA) == (validB l0 aA)) (condB ((checkE l0 aA p2) == (checkE l0 aA p2)) (some ((.bool ((checkI l0 aA p2) == (checkI l0 aA p2))),[])) (some ((.bool false),[]))) (some ((.bool false),[]))))))
noncomputable def ct1:Kont U El:=fun st=>exec X (cdp [1,1,1] bd) .d st RR (fun _ _=>none) RR
theorem P0 (l crews p):exec X (cdp [] bd) (.seq none .d (.seq none .d (.seq (some nm1) .d .d))) (fr0 l crews p) RR (fun _ _=>none) RR=sh0 l crews p (fun y0 y1 y2=>(hid ct1) (fr1 y0 y1 y2)):=by kernel_rfl
theorem P1 (l0 aA p2):ct1 (fr1 l0 aA p2)=sh1 l0 aA p2:=by kernel_rfl
noncomputable def f1 (l0:List Work) (aA:Int) (p2:List Slot):R:=sh1 l0 aA p2
noncomputable def f0 (l:List Work) (crews:Int) (p:List Slot):R:=sh0 l crews p f1
theorem T1 (l0 aA p2):(hid ct1) (fr1 l0 aA p2)=f1 l0 aA p2:=by
  refine (congrFun (hid_eq _) _).trans <| (P1 l0 aA p2).trans ?_
  show _=sh1 l0 aA p2
  rfl
theorem T0 (l crews p):exec X bd (.seq none .d (.seq none .d (.seq (some nm1) .d .d))) (fr0 l crews p) RR (fun _ _=>none) RR=f0 l crews p:=by
  refine (P0 l crews p).trans ?_
  show _=sh0 l crews p f1
  simp only [T1]
theorem run (l crews p):runFn X bd (.seq none .d (.seq none .d (.seq (some nm1) .d .d))) nmR [6] [] [(.lst .work l),(.int .i64 crews),(.lst .slot p)]=f0 l crews p:=T0 l crews p
theorem f0_eq (l:List Work) (crews:Int) (p:List Slot):f0 l crews p=outB true:=by
  show sh0 l crews p f1=_
  unfold sh0
  cases hb:largeB l
  case true=>rfl
  cases ilt (20:Int) (Int.ofNat p.length)
  case true=>rfl
  show sh1 l crews p=_
  unfold sh1
  rw [large_okV hb,beq_self_eq_true,beq_self_eq_true,beq_self_eq_true]
  rfl
theorem ok:CtxOk Try.prog X:=ctxOk tab (spC awake.spOk (spC large.spOk (spC check.spOk (spC rcheck.spOk (spC valid.spOk (spC rvalid.spOk spN)))))) dpN
theorem okM:MOk Try.prog X:=fun g sp h=>by cases h
theorem spec (l:List Work) (crews:Int) (p:List Slot):CallSpec Try.prog E 3 [(.lst .work l),(.int .i64 crews),(.lst .slot p)] (.bool (true)) [] :=
  runFn_sound ok okM Try.call3 Try.func3 (by kernel_rfl) (by kernel_rfl) (by kernel_rfl) (by show 3≤51; decide) (by decide) (by rfl) ((run l crews p).trans (f0_eq l crews p))
noncomputable def sp:Sp U El:=fun args k=>match args with
  | [.lst .work l,.int .i64 crews,.lst .slot p]=>k (.bool (true)) []
  | _=>none
theorem spOk:SpOk Try.prog E 3 sp where
  det:=fun vs=>by
    unfold sp
    split
    · exact ⟨some (_,_),fun _=>rfl⟩
    · exact ⟨none,fun _=>rfl⟩
  ok:=fun vs k r h=>by
    unfold sp at h
    split at h
    · exact ⟨_,_,spec _ _ _,h⟩
    · cases h
end lawChecks
end Go.Proofs.Ythdklallcljhlaa
