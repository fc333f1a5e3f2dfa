import Derived.Test.YtlkfbblapimhoaaGreatDoorSM
import Derived.Test.YtlkfbblapimhoaaGreatDoorAG
import Derived.Test.YtlkfbblapimhoaaGreatDoorRT
namespace Go.Proofs.YtlkfbblapimhoaaGreatDoor
set_option linter.all false
set_option maxRecDepth 100000
theorem uparL_okR (s : List UInt8) : okR (uparL s) = true := by
  cases h:uparE s == 0 with
  | true=>exact rulesB_okR (par_valid (eq_of_beq h))
  | false =>
    have:uparL s=[]:=by
      unfold uparE at h
      unfold uparL
      cases h1:tokE s == 0 with
      | false=>rfl
      | true =>
        rw [h1] at h
        simp only [cond_true] at h ⊢
        unfold parL
        rw [h]
        rfl
    rw [this]
    rfl
namespace lawForms
noncomputable def bd:Code:=(Tryz.f3.body).getD .skip
noncomputable def X:Ctx U El:=⟨E,tds,zeros,eqs,specOf [(7,awake.sp),(8,small.sp),(9,rvalid.sp),(10,utext.sp),(11,parse.sp),(12,rparse.sp),(13,valid.sp),(14,rsame.sp),(15,rtext.sp)],100000,79,dspecOf [],fun _=>none,fun _=>none⟩
noncomputable def nmR:Norm U:=⟨[],[4],[],[],[],[],[]⟩
noncomputable def RR:Kont U El:=fun st=>normK nmR st (retFin [4] [])
noncomputable def nm1:Norm U:=⟨[],[0,1],[],[],[],[],[]⟩
noncomputable def nm2:Norm U:=⟨[],[0,5,6,7],[],[],[],[],[]⟩
abbrev Y1:=(List Rule)→(List UInt8)→R
abbrev Y2:=(List Rule)→Bool→(List UInt8)→Int→R
noncomputable def fr0 (l:List Rule) (s:List UInt8):St U El:=⟨[(0,(.lst .rule l)),(1,(.str s))],[]⟩
noncomputable def fr1 (l0:List Rule) (s1:List UInt8):St U El:=⟨[(0,(.lst .rule l0)),(1,(.str s1))],[]⟩
noncomputable def fr2 (l0:List Rule) (aA:Bool) (t6:List UInt8) (e7:Int):St U El:=⟨[(0,(.lst .rule l0)),(5,(.bool aA)),(6,(.str t6)),(7,(.int .i64 e7))],[]⟩
noncomputable def sh0 (l:List Rule) (s:List UInt8) (k1:Y1):R :=
 condB (!(true)) (some ((.bool false),[])) (condB (!(smallB l)) (some ((.bool true),[])) (condB (ilt (3000:Int) (Int.ofNat (List.length s))) (some ((.bool true),[])) (k1 l s)))
noncomputable def sh1 (l0:List Rule) (s1:List UInt8) (k2:Y2):R :=
 chk (nle (List.length s1) 80000) (chk (nle (List.length s1) 80000) (condB (!((rulesB l0) == (rulesB l0))) (some ((.bool false),[])) (chk (okR (uparL s1)) (condB (!(sameL (uparL s1) (uparL s1))) (some ((.bool false),[])) (condB (!(((uparP s1).pl == (uparP s1).pl)&&(((uparP s1).pc == (uparP s1).pc)&&true))) (some ((.bool false),[])) (condB ((uparE s1) != (uparE s1)) (some ((.bool false),[])) (k2 l0 (rulesB l0) (textS l0) (textE l0))))))))
noncomputable def sh2 (l0:List Rule) (aA:Bool) (t6:List UInt8) (e7:Int):R :=
 condB (!aA) (condB (t6 == ([]:List UInt8)) (some ((.bool (e7 == (1:Int))),[])) (some ((.bool false),[]))) (chk (rulesB l0) (condB (t6 == (textJ l0)) (some ((.bool (e7 == (0:Int))),[])) (some ((.bool false),[]))))
noncomputable def ct1:Kont U El:=fun st=>exec X (cdp [1,1,1] bd) (.seq none .d (.seq none .d (.seq none .d (.seq none .d (.seq (some nm2) .d .d))))) st RR (fun _ _=>none) RR
noncomputable def ct2:Kont U El:=fun st=>exec X (cdp [1,1,1,1,1,1,1,1] bd) .d st RR (fun _ _=>none) RR
theorem P0 (l s):exec X (cdp [] bd) (.seq none .d (.seq none .d (.seq (some nm1) .d (.seq none .d (.seq none .d (.seq none .d (.seq none .d (.seq (some nm2) .d .d)))))))) (fr0 l s) RR (fun _ _=>none) RR=sh0 l s (fun y0 y1=>(hid ct1) (fr1 y0 y1)):=by kernel_rfl
theorem P1 (l0 s1):ct1 (fr1 l0 s1)=sh1 l0 s1 (fun y0 y1 y2 y3=>(hid ct2) (fr2 y0 y1 y2 y3)):=by kernel_rfl
theorem P2 (l0 aA t6 e7):ct2 (fr2 l0 aA t6 e7)=sh2 l0 aA t6 e7:=by kernel_rfl
noncomputable def f2 (l0:List Rule) (aA:Bool) (t6:List UInt8) (e7:Int):R:=sh2 l0 aA t6 e7
noncomputable def f1 (l0:List Rule) (s1:List UInt8):R:=sh1 l0 s1 f2
noncomputable def f0 (l:List Rule) (s:List UInt8):R:=sh0 l s f1
theorem T2 (l0 aA t6 e7):(hid ct2) (fr2 l0 aA t6 e7)=f2 l0 aA t6 e7:=by
 refine (congrFun (hid_eq _) _).trans <| (P2 l0 aA t6 e7).trans ?_
 show _=sh2 l0 aA t6 e7
 rfl
theorem T1 (l0 s1):(hid ct1) (fr1 l0 s1)=f1 l0 s1:=by
 refine (congrFun (hid_eq _) _).trans <| (P1 l0 s1).trans ?_
 show _=sh1 l0 s1 f2
 simp only [T2]
theorem T0 (l s):exec X bd (.seq none .d (.seq none .d (.seq (some nm1) .d (.seq none .d (.seq none .d (.seq none .d (.seq none .d (.seq (some nm2) .d .d)))))))) (fr0 l s) RR (fun _ _=>none) RR=f0 l s:=by
 refine (P0 l s).trans ?_
 show _=sh0 l s f1
 simp only [T1]
theorem run (l s):runFn X bd (.seq none .d (.seq none .d (.seq (some nm1) .d (.seq none .d (.seq none .d (.seq none .d (.seq none .d (.seq (some nm2) .d .d)))))))) nmR [4] [] [(.lst .rule l),(.str s)]=f0 l s:=T0 l s
theorem f0_eq (l : List Rule) (s : List UInt8) : f0 l s = outB true := by
  show sh0 l s f1=_
  unfold sh0
  cases h1:smallB l with
  | false=>rfl
  | true =>
    simp only [Bool.not_true,condF]
    cases h2:ilt (3000:Int) (Int.ofNat s.length) with
    | true=>rfl
    | false =>
      have hs:=iltN h2
      have hl:s.length≤80000:=by simp at hs; omega
      simp only [condF]
      show sh1 l s f2=_
      unfold sh1
      rw [nleT hl,uparL_okR,sameL_self]
      simp only [chkT,beq_self_eq_true,bne_self_eq_false,Bool.not_true,Bool.and_self,condF]
      show sh2 l (rulesB l) (textS l) (textE l)=_
      unfold sh2 textS textE
      cases h:rulesB l with
      | false=>rfl
      | true =>
        simp only [Bool.not_true,condF,chkT,cond_true,beq_self_eq_true,condT]
        rfl
theorem ok:CtxOk Tryz.prog X:=ctxOk tab (spC awake.spOk (spC small.spOk (spC rvalid.spOk (spC utext.spOk (spC parse.spOk (spC rparse.spOk (spC valid.spOk (spC rsame.spOk (spC rtext.spOk spN))))))))) dpN
theorem okM:MOk Tryz.prog X:=fun g sp h=>by cases h
theorem spec (l:List Rule) (s:List UInt8):CallSpec Tryz.prog E 3 [(.lst .rule l),(.str s)] (.bool (true)) [] :=
 rfs ok okM Tryz.call3 Tryz.func3 ((run l s).trans (f0_eq l s))
noncomputable def sp:Sp U El:=fun args k=>match args with
 | [.lst .rule l,.str s]=>k (.bool (true)) []
 | _=>none
theorem spOk:SpOk Tryz.prog E 3 sp:=⟨fun vs=>by unfold sp;split;exact ⟨some (_,_),fun _=>rfl⟩;exact ⟨none,fun _=>rfl⟩,fun vs k r h=>by unfold sp at h;split at h;exact ⟨_,_,spec _ _,h⟩;cases h⟩
end lawForms
end Go.Proofs.YtlkfbblapimhoaaGreatDoor
