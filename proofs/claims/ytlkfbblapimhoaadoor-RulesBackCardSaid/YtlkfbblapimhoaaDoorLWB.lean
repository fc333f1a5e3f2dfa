/- RulesBack: the law's own run. -/
import Derived.Test.YtlkfbblapimhoaaDoorSM
namespace Go.Proofs.YtlkfbblapimhoaaDoor
set_option linter.unusedSectionVars false
set_option linter.unusedSimpArgs false
set_option linter.unusedVariables false
set_option maxRecDepth 100000
namespace lawBack
noncomputable def bd:Code:=(Tryd.f6.body).getD .skip
noncomputable def X:Ctx U El:=⟨E,tds,zeros,eqs,specOf [(7,awake.sp),(13,small.sp),(22,rsame.sp),(24,parse.sp),(25,utext.sp),(26,valid.sp)],100000,96,dspecOf [],fun _=>none,fun _=>none⟩
noncomputable def nmR:Norm U:=⟨[],[4],[],[],[],[],[]⟩
noncomputable def RR:Kont U El:=fun st=>normK nmR st (retFin [4] [])
noncomputable def nm1:Norm U:=⟨[],[0,1],[],[],[],[],[]⟩
noncomputable def nm2:Norm U:=⟨[],[0],[],[],[],[],[]⟩
abbrev Y1:=(List Rule)→(List UInt8)→R
abbrev Y2:=(List Rule)→R
noncomputable def fr0 (l:List Rule) (s:List UInt8):St U El:=⟨[(0,(.lst .rule l)),(1,(.str s))],[]⟩
noncomputable def fr1 (l0:List Rule) (s1:List UInt8):St U El:=⟨[(0,(.lst .rule l0)),(1,(.str s1))],[]⟩
noncomputable def fr2 (l0:List Rule):St U El:=⟨[(0,(.lst .rule l0))],[]⟩
noncomputable def sh0 (l:List Rule) (s:List UInt8) (k1:Y1):R :=
  condB (!(true)) (some ((.bool false),[])) (condB (!(smallB l)) (some ((.bool true),[])) (condB (ilt (3000:Int) (Int.ofNat (List.length s))) (some ((.bool true),[])) (k1 l s)))
noncomputable def sh1 (l0:List Rule) (s1:List UInt8) (k2:Y2):R :=
  chk (nle (List.length s1) 80000) (condB ((uparE s1) == (0:Int)) (chk (nle (List.length (textS (uparL s1))) 80000) (condB (!(rulesB (uparL s1))) (some ((.bool false),[])) (condB ((textE (uparL s1)) != (0:Int)) (some ((.bool false),[])) (condB ((uparE (textS (uparL s1))) != (0:Int)) (some ((.bool false),[])) (chk (okR (uparL s1)) (condB (!(sameL (uparL s1) (uparL (textS (uparL s1))))) (some ((.bool false),[])) (k2 l0))))))) (k2 l0))
noncomputable def sh2 (l0:List Rule):R :=
  condB ((textE l0) != (0:Int)) (condB ((textS l0) == ([]:List UInt8)) (some ((.bool (!(rulesB l0))),[])) (some ((.bool false),[]))) (chk (nle (List.length (textS l0)) 80000) (condB ((uparE (textS l0)) == (0:Int)) (condB (((uparP (textS l0)).pl == (0:Int))&&(((uparP (textS l0)).pc == (0:Int))&&true)) (chk (okR (uparL (textS l0))) (some ((.bool (sameL (uparL (textS l0)) l0)),[]))) (some ((.bool false),[]))) (some ((.bool false),[]))))
noncomputable def ct1:Kont U El:=fun st=>exec X (cdp [1,1,1] bd) (.seq (some nm2) .d .d) st RR (fun _ _=>none) RR
noncomputable def ct2:Kont U El:=fun st=>exec X (cdp [1,1,1,1] bd) .d st RR (fun _ _=>none) RR
theorem P0 (l s):exec X (cdp [] bd) (.seq none .d (.seq none .d (.seq (some nm1) .d (.seq (some nm2) .d .d)))) (fr0 l s) RR (fun _ _=>none) RR=sh0 l s (fun y0 y1=>(hid ct1) (fr1 y0 y1)):=by kernel_rfl
theorem P1 (l0 s1):ct1 (fr1 l0 s1)=sh1 l0 s1 (fun y0=>(hid ct2) (fr2 y0)):=by kernel_rfl
theorem P2 (l0):ct2 (fr2 l0)=sh2 l0:=by kernel_rfl
noncomputable def f2 (l0:List Rule):R:=sh2 l0
noncomputable def f1 (l0:List Rule) (s1:List UInt8):R:=sh1 l0 s1 f2
noncomputable def f0 (l:List Rule) (s:List UInt8):R:=sh0 l s f1
theorem T2 (l0):(hid ct2) (fr2 l0)=f2 l0:=by
  refine (congrFun (hid_eq _) _).trans <| (P2 l0).trans ?_
  show _=sh2 l0
  rfl
theorem T1 (l0 s1):(hid ct1) (fr1 l0 s1)=f1 l0 s1:=by
  refine (congrFun (hid_eq _) _).trans <| (P1 l0 s1).trans ?_
  show _=sh1 l0 s1 f2
  simp only [T2]
theorem T0 (l s):exec X bd (.seq none .d (.seq none .d (.seq (some nm1) .d (.seq (some nm2) .d .d)))) (fr0 l s) RR (fun _ _=>none) RR=f0 l s:=by
  refine (P0 l s).trans ?_
  show _=sh0 l s f1
  simp only [T1]
theorem run (l s):runFn X bd (.seq none .d (.seq none .d (.seq (some nm1) .d (.seq (some nm2) .d .d)))) nmR [4] [] [(.lst .rule l),(.str s)]=f0 l s:=T0 l s
theorem f2_eq (l:List Rule):f2 l=outB true:=by
  show sh2 l=_
  unfold sh2
  cases h:rulesB l with
  | false =>
    have h1:textE l=1:=by unfold textE; rw [h]; rfl
    have h2:textS l=[]:=by unfold textS; rw [h]; rfl
    rw [h1,h2]
    rfl
  | true =>
    have h1:textE l=0:=by unfold textE; rw [h]; rfl
    obtain ⟨g1,g2,g3⟩:=read_back h
    rw [h1,nleT (textS_len l),g1,g2,g3,rulesB_okR h,sameL_self]
    rfl
theorem f0_eq (l : List Rule) (s : List UInt8) : f0 l s = outB true := by
  show sh0 l s f1=_
  unfold sh0
  cases h1:smallB l with
  | false=>rfl
  | true =>
    simp only [Bool.not_true,condF]
    cases h2:ilt (3000:Int) (Int.ofNat s.length) with
    | true=>rfl
    | false =>
      have hs:=iltN h2
      have hl:s.length≤80000:=by simp at hs; omega
      simp only [condF]
      show sh1 l s f2=_
      unfold sh1
      rw [nleT hl]
      simp only [chkT]
      cases h3:uparE s == 0 with
      | false=>exact f2_eq l
      | true =>
        have h3:=eq_of_beq h3
        have hv:=par_valid h3
        have hE:textE (uparL s)=0:=by unfold textE; rw [hv]; rfl
        obtain ⟨g1,g2,g3⟩:=read_back hv
        rw [nleT (textS_len _),hv,hE,g1,g2,rulesB_okR hv,sameL_self]
        exact f2_eq l
theorem ok:CtxOk Tryd.prog X:=ctxOk tab (spC awake.spOk (spC small.spOk (spC rsame.spOk (spC parse.spOk (spC utext.spOk (spC valid.spOk spN)))))) dpN
theorem okM:MOk Tryd.prog X:=fun g sp h=>by cases h
theorem spec (l:List Rule) (s:List UInt8):CallSpec Tryd.prog E 6 [(.lst .rule l),(.str s)] (.bool (true)) [] :=
  runFn_sound ok okM Tryd.call6 Tryd.func6 (by kernel_rfl) (by kernel_rfl) (by kernel_rfl) (by show 2≤96; decide) (by decide) (by rfl) ((run l s).trans (f0_eq l s))
noncomputable def sp:Sp U El:=fun args k=>match args with
  | [.lst .rule l,.str s]=>k (.bool (true)) []
  | _=>none
theorem spOk:SpOk Tryd.prog E 6 sp where
  det:=fun vs=>by
    unfold sp
    split
    · exact ⟨some (_,_),fun _=>rfl⟩
    · exact ⟨none,fun _=>rfl⟩
  ok:=fun vs k r h=>by
    unfold sp at h
    split at h
    · exact ⟨_,_,spec _ _,h⟩
    · cases h
end lawBack
end Go.Proofs.YtlkfbblapimhoaaDoor
