/- The law InspectionBack: its run. -/
import Derived.Test.YtnhmhcobpbilhaaGreatDoorPW
import Derived.Test.YtnhmhcobpbilhaaGreatDoorPR
import Derived.Test.YtnhmhcobpbilhaaGreatDoorVW
namespace Go.Proofs.YtnhmhcobpbilhaaGreatDoor
set_option linter.unusedSectionVars false
set_option linter.unusedSimpArgs false
set_option linter.unusedVariables false
set_option maxRecDepth 100000
namespace lawBack
noncomputable def bd:Code:=(Tryz.f4.body).getD .skip
noncomputable def X:Ctx U El:=⟨E,tds,zeros,eqs,specOf [(5,awake.sp),(6,few.sp),(7,textF.sp),(8,parse.sp),(10,valid.sp),(12,equalD.sp),(14,turned.sp),(15,score.sp),(16,gradeF.sp)],100000,178,dspecOf [],fun _=>none⟩
noncomputable def nmR:Norm U:=⟨[],[6],[],[],[],[],[]⟩
noncomputable def RR:Kont U El:=fun st=>normK nmR st (retFin [6] [])
noncomputable def nm1:Norm U:=⟨[],[0,1,2],[],[],[],[],[]⟩
noncomputable def nm2:Norm U:=⟨[],[0,1],[],[],[],[],[]⟩
noncomputable def nm3:Norm U:=⟨[],[0,1],[],[],[],[],[]⟩
abbrev Y1:=(List Df)→Int→(List UInt8)→R
abbrev Y2:=(List Df)→Int→R
abbrev Y3:=(List Df)→Int→R
noncomputable def fr0 (l:List Df) (L:Int) (s:List UInt8):St U El:=⟨[(0,(.lst .df l)),(1,(.int .i64 L)),(2,(.str s))],[]⟩
noncomputable def fr1 (l0:List Df) (aA:Int) (s2:List UInt8):St U El:=⟨[(0,(.lst .df l0)),(1,(.int .i64 aA)),(2,(.str s2))],[]⟩
noncomputable def fr2 (l0:List Df) (aA:Int):St U El:=⟨[(0,(.lst .df l0)),(1,(.int .i64 aA))],[]⟩
noncomputable def fr3 (l0:List Df) (aA:Int):St U El:=⟨[(0,(.lst .df l0)),(1,(.int .i64 aA))],[]⟩
noncomputable def sh0 (l:List Df) (L:Int) (s:List UInt8) (k1:Y1):R :=
  condB (!(true)) (some ((.bool false),[])) (condB (!(fewB l)) (some ((.bool true),[])) (condB (ilt (2000:Int) (Int.ofNat (List.length s))) (some ((.bool true),[])) (k1 l L s)))
noncomputable def sh1 (l0:List Df) (aA:Int) (s2:List UInt8) (k2:Y2):R :=
  chk (nle (List.length s2) 90000) (condB ((parE s2) == (0:Int)) (condB ((textE (parL s2)) != (0:Int)) (some ((.bool false),[])) (condB (!((textS (parL s2)) == s2)) (some ((.bool false),[])) (k2 l0 aA))) (k2 l0 aA))
noncomputable def sh2 (l0:List Df) (aA:Int) (k3:Y3):R :=
  condB ((textE l0) == (0:Int)) (chk (nle (List.length (textS l0)) 90000) (condB ((parE (textS l0)) != (0:Int)) (some ((.bool false),[])) (condB (!(((parP (textS l0)).pl == (0:Int))&&(((parP (textS l0)).pc == (0:Int))&&true))) (some ((.bool false),[])) (chk (nle (List.length (parL (textS l0))) 4000) (condB (!(eqD (parL (textS l0)) l0)) (some ((.bool false),[])) (k3 l0 aA)))))) (k3 l0 aA)
noncomputable def sh3 (l0:List Df) (aA:Int):R :=
  condB ((turnedE aA l0) != (0:Int)) (condB ((Int.ofNat (List.length (turnedL aA l0))) == (0:Int)) (some ((.bool (!(validB aA l0))),[])) (some ((.bool false),[]))) (condB ((turnedE aA (turnedL aA l0)) == (0:Int)) (chk (nle (List.length (turnedL aA (turnedL aA l0))) 4000) (condB (eqD (turnedL aA (turnedL aA l0)) l0) (condB (validB aA (turnedL aA l0)) (condB ((scoreE aA l0) == (0:Int)) (condB ((scoreE aA (turnedL aA l0)) == (0:Int)) (condB ((scoreZ aA l0) == (scoreZ aA (turnedL aA l0))) (condB ((scoreE aA l0) == (0:Int)) (condB ((scoreE aA (turnedL aA l0)) == (0:Int)) (condB ((gradeF aA l0) == (gradeF aA (turnedL aA l0))) (condB (ile (1:Int) (gradeF aA l0)) (some ((.bool (ile (gradeF aA l0) (5:Int))),[])) (some ((.bool false),[]))) (some ((.bool false),[]))) (some ((.bool false),[]))) (some ((.bool false),[]))) (some ((.bool false),[]))) (some ((.bool false),[]))) (some ((.bool false),[]))) (some ((.bool false),[]))) (some ((.bool false),[])))) (some ((.bool false),[])))
noncomputable def ct1:Kont U El:=fun st=>exec X (cdp [1,1,1] bd) (.seq (some nm2) .d (.seq (some nm3) .d .d)) st RR (fun _ _=>none) RR
noncomputable def ct2:Kont U El:=fun st=>exec X (cdp [1,1,1,1] bd) (.seq (some nm3) .d .d) st RR (fun _ _=>none) RR
noncomputable def ct3:Kont U El:=fun st=>exec X (cdp [1,1,1,1,1] bd) .d st RR (fun _ _=>none) RR
theorem P0 (l L s):exec X (cdp [] bd) (.seq none .d (.seq none .d (.seq (some nm1) .d (.seq (some nm2) .d (.seq (some nm3) .d .d))))) (fr0 l L s) RR (fun _ _=>none) RR=sh0 l L s (fun y0 y1 y2=>(hid ct1) (fr1 y0 y1 y2)):=by kernel_rfl
theorem P1 (l0 aA s2):ct1 (fr1 l0 aA s2)=sh1 l0 aA s2 (fun y0 y1=>(hid ct2) (fr2 y0 y1)):=by kernel_rfl
theorem P2 (l0 aA):ct2 (fr2 l0 aA)=sh2 l0 aA (fun y0 y1=>(hid ct3) (fr3 y0 y1)):=by kernel_rfl
theorem P3 (l0 aA):ct3 (fr3 l0 aA)=sh3 l0 aA:=by kernel_rfl
noncomputable def f3 (l0:List Df) (aA:Int):R:=sh3 l0 aA
noncomputable def f2 (l0:List Df) (aA:Int):R:=sh2 l0 aA f3
noncomputable def f1 (l0:List Df) (aA:Int) (s2:List UInt8):R:=sh1 l0 aA s2 f2
noncomputable def f0 (l:List Df) (L:Int) (s:List UInt8):R:=sh0 l L s f1
theorem T3 (l0 aA):(hid ct3) (fr3 l0 aA)=f3 l0 aA:=by
  refine (congrFun (hid_eq _) _).trans <| (P3 l0 aA).trans ?_
  show _=sh3 l0 aA
  rfl
theorem T2 (l0 aA):(hid ct2) (fr2 l0 aA)=f2 l0 aA:=by
  refine (congrFun (hid_eq _) _).trans <| (P2 l0 aA).trans ?_
  show _=sh2 l0 aA f3
  simp only [T3]
theorem T1 (l0 aA s2):(hid ct1) (fr1 l0 aA s2)=f1 l0 aA s2:=by
  refine (congrFun (hid_eq _) _).trans <| (P1 l0 aA s2).trans ?_
  show _=sh1 l0 aA s2 f2
  simp only [T2]
theorem T0 (l L s):exec X bd (.seq none .d (.seq none .d (.seq (some nm1) .d (.seq (some nm2) .d (.seq (some nm3) .d .d))))) (fr0 l L s) RR (fun _ _=>none) RR=f0 l L s:=by
  refine (P0 l L s).trans ?_
  show _=sh0 l L s f1
  simp only [T1]
theorem run (l L s):runFn X bd (.seq none .d (.seq none .d (.seq (some nm1) .d (.seq (some nm2) .d (.seq (some nm3) .d .d))))) nmR [6] [] [(.lst .df l),(.int .i64 L),(.str s)]=f0 l L s:=T0 l L s
theorem f3_true (l:List Df) (L:Int):f3 l L=some (.bool true,[]):=by
  show sh3 l L=_
  unfold sh3
  cases hv:validB L l with
  | false =>
    have e1:turnedL L l=[]:=by unfold turnedL; rw [hv]; rfl
    have e2:turnedE L l=1:=by unfold turnedE; rw [hv]; rfl
    rw [e1,e2]
    rfl
  | true =>
    have e1:turnedL L l=sortDf (l.map (turnD L)):=by unfold turnedL; rw [hv]; rfl
    have e2:turnedE L l=0:=by unfold turnedE; rw [hv]; rfl
    have hw:=turned_valid hv
    have g1:turnedL L (sortDf (l.map (turnD L)))=l:=by unfold turnedL; rw [hw]; exact turned_twice hv
    have g2:turnedE L (sortDf (l.map (turnD L)))=0:=by unfold turnedE; rw [hw]; rfl
    have s1:scoreE L l=0:=by unfold scoreE; rw [hv]; rfl
    have s2:scoreE L (sortDf (l.map (turnD L)))=0:=by unfold scoreE; rw [hw]; rfl
    have z1:scoreZ L (sortDf (l.map (turnD L)))=scoreZ L l:=by unfold scoreZ; rw [hw,hv]; exact tot_turned L l
    have r1:gradeF L (sortDf (l.map (turnD L)))=gradeF L l:=by unfold gradeF; rw [hw,hv]; exact grade_turned L l
    have r2:gradeF L l=rgradeZ L l:=by unfold gradeF; rw [hv]; rfl
    have hg:=grade_rng L l
    have:=valid_len hv
    rw [e1,e2,g1,g2,hw,s1,s2,z1,r1,r2,eqD_same,nleT (show l.length≤4000 by omega),ileT hg.1,ileT hg.2]
    simp only [bne_self_eq_false,beq_self_eq_true,condF,condT,chkT]
theorem f2_true (l:List Df) (L:Int):f2 l L=some (.bool true,[]):=by
  show sh2 l L f3=_
  unfold sh2
  cases hv:validB 16777216 l with
  | false =>
    have e:textE l=1:=by unfold textE; rw [hv]; rfl
    rw [e]
    exact f3_true l L
  | true =>
    have e:textE l=0:=by unfold textE; rw [hv]; rfl
    have t:textS l=linesS l:=by unfold textS; rw [hv]; rfl
    have hp:=text_par hv
    have p1:parL (linesS l)=l:=by unfold parL; rw [hp]
    have p2:parE (linesS l)=0:=by unfold parE; rw [hp]
    have p3:parP (linesS l)=⟨0,0⟩:=by
      have:parN (linesS l)=0:=by unfold parN; rw [hp]
      unfold parP; rw [this]; rfl
    have hl:=valid_len hv
    have hs:=valid_lines hv
    rw [e,t,p1,p2,p3,eqD_same,nleT (show l.length≤4000 by omega),nleT (show (linesS l).length≤90000 by omega)]
    simp only [bne_self_eq_false,beq_self_eq_true,condF,condT,chkT,Bool.and_self,Bool.not_true]
    exact f3_true l L
theorem f0_eq (l:List Df) (L:Int) (s:List UInt8):f0 l L s=some (.bool true,[]):=by
  show sh0 l L s f1=_
  unfold sh0
  rw [Bool.not_true,condF]
  cases fewB l
  · rfl
  rw [Bool.not_true,condF]
  by_cases hs:(2000:Int) < Int.ofNat s.length
  · rw [iltT hs]; rfl
  rw [iltF (by omega),condF]
  simp only [Int.ofNat_eq_natCast] at hs
  show sh1 l L s f2=_
  unfold sh1
  rw [nleT (show s.length≤90000 by omega),chkT]
  by_cases hp:parE s=0
  · obtain ⟨g1, g2⟩ := par_back hp
    have e:textE (parL s)=0:=by unfold textE; rw [g1]; rfl
    have t:textS (parL s)=s:=by unfold textS; rw [g1,cond_true]; exact g2
    rw [hp,e,t,beq_self_eq_true s]
    simp only [bne_self_eq_false,beq_self_eq_true,condF,condT,Bool.not_true]
    exact f2_true l L
  · rw [beq_eq_false_iff_ne.2 hp, condF]
    exact f2_true l L
theorem ok:CtxOk Tryz.prog X:=ctxOk tab (spC awake.spOk (spC few.spOk (spC textF.spOk (spC parse.spOk (spC valid.spOk (spC equalD.spOk (spC turned.spOk (spC score.spOk (spC gradeF.spOk spN))))))))) dpN
theorem okM:MOk Tryz.prog X:=fun g sp h=>by cases h
theorem spec (l:List Df) (L:Int) (s:List UInt8):CallSpec Tryz.prog E 4 [(.lst .df l),(.int .i64 L),(.str s)] (.bool (true)) [] :=
  runFn_sound ok okM Tryz.call4 Tryz.func4 (by kernel_rfl) (by kernel_rfl) (by kernel_rfl) (by show 3≤178; decide) (by decide) (by rfl) ((run l L s).trans (f0_eq l L s))
noncomputable def sp:Sp U El:=fun args k=>match args with
  | [.lst .df l,.int .i64 L,.str s]=>k (.bool (true)) []
  | _=>none
theorem spOk:SpOk Tryz.prog E 4 sp where
  det:=fun vs=>by
    unfold sp
    split
    · exact ⟨some (_,_),fun _=>rfl⟩
    · exact ⟨none,fun _=>rfl⟩
  ok:=fun vs k r h=>by
    unfold sp at h
    split at h
    · exact ⟨_,_,spec _ _ _,h⟩
    · cases h
end lawBack
end Go.Proofs.YtnhmhcobpbilhaaGreatDoor
