/- The law InspectionForms: its run. -/
import Derived.Test.YtnhmhcobpbilhaaGreatDoorPW
import Derived.Test.YtnhmhcobpbilhaaGreatDoorRT
import Derived.Test.YtnhmhcobpbilhaaGreatDoorPR
namespace Go.Proofs.YtnhmhcobpbilhaaGreatDoor
set_option linter.unusedSectionVars false
set_option linter.unusedSimpArgs false
set_option linter.unusedVariables false
set_option maxRecDepth 100000
theorem pos_same (p:Pos):((p.pl == p.pl)&&((p.pc == p.pc)&&true))=true:=by
  rw [beq_self_eq_true,beq_self_eq_true]
  rfl
namespace lawForms
noncomputable def bd:Code:=(Tryz.f3.body).getD .skip
noncomputable def X:Ctx U El:=⟨E,tds,zeros,eqs,specOf [(5,awake.sp),(6,few.sp),(7,textF.sp),(8,parse.sp),(9,rparse.sp),(10,valid.sp),(11,rvalid.sp),(12,equalD.sp),(13,rtext.sp)],100000,88,dspecOf [],fun _=>none⟩
noncomputable def nmR:Norm U:=⟨[],[6],[],[],[],[],[]⟩
noncomputable def RR:Kont U El:=fun st=>normK nmR st (retFin [6] [])
noncomputable def nm1:Norm U:=⟨[],[0,1,2],[],[],[],[],[]⟩
noncomputable def nm2:Norm U:=⟨[(9,.df)],[0,1,7,8,9,10,11,12,14,15],[9,10,15],[],[],[],[]⟩
noncomputable def nm3:Norm U:=⟨[],[0,7,8],[],[],[],[],[]⟩
abbrev Y1:=(List Df)→Int→(List UInt8)→R
abbrev Y2:=(List Df)→Int→(List UInt8)→Int→(List Df)→Int→(List Df)→Int→Pos→Pos→R
abbrev Y3:=(List Df)→(List UInt8)→Int→R
noncomputable def fr0 (l:List Df) (L:Int) (s:List UInt8):St U El:=⟨[(0,(.lst .df l)),(1,(.int .i64 L)),(2,(.str s))],[]⟩
noncomputable def fr1 (l0:List Df) (aA:Int) (s2:List UInt8):St U El:=⟨[(0,(.lst .df l0)),(1,(.int .i64 aA)),(2,(.str s2))],[]⟩
noncomputable def fr2 (l0:List Df) (aA:Int) (t7:List UInt8) (e8:Int) (x9:List Df) (eA:Int) (bA:List Df) (fA:Int) (cA:Pos) (dA:Pos):St U El:=⟨[(0,(.lst .df l0)),(1,(.int .i64 aA)),(7,(.str t7)),(8,(.int .i64 e8)),(9,(.ful 9)),(10,(.ptr 10 0)),(11,(.int .i64 eA)),(12,(.lst .df bA)),(14,(.int .i64 fA)),(15,(.ptr 15 0))],[(9,(.rows .df x9)),(10,(.box 0 [(.int .i64 cA.pl),(.int .i64 cA.pc)])),(15,(.box 0 [(.int .i64 dA.pl),(.int .i64 dA.pc)]))]⟩
noncomputable def fr3 (l0:List Df) (t7:List UInt8) (e8:Int):St U El:=⟨[(0,(.lst .df l0)),(7,(.str t7)),(8,(.int .i64 e8))],[]⟩
noncomputable def sh0 (l:List Df) (L:Int) (s:List UInt8) (k1:Y1):R :=
  condB (!(true)) (some ((.bool false),[])) (condB (!(fewB l)) (some ((.bool true),[])) (condB (ilt (2000:Int) (Int.ofNat (List.length s))) (some ((.bool true),[])) (k1 l L s)))
noncomputable def sh1 (l0:List Df) (aA:Int) (s2:List UInt8) (k2:Y2):R :=
  chk (nle (List.length s2) 90000) (chk (nle (List.length s2) 90000) (condB (ilt (0:Int) (parN s2)) (k2 l0 aA (textS l0) (textE l0) (parL s2) (parE s2) (parL s2) (parE s2) (parP s2) (⟨(parN s2),(1:Int)⟩:Pos)) (k2 l0 aA (textS l0) (textE l0) (parL s2) (parE s2) (parL s2) (parE s2) (parP s2) (⟨(0:Int),(0:Int)⟩:Pos))))
noncomputable def sh2 (l0:List Df) (aA:Int) (t7:List UInt8) (e8:Int) (x9:List Df) (eA:Int) (bA:List Df) (fA:Int) (cA:Pos) (dA:Pos) (k3:Y3):R :=
  condB (!((validB aA l0) == (validB aA l0))) (some ((.bool false),[])) (chk (nle (List.length x9) 4000) (condB (!(eqD x9 bA)) (some ((.bool false),[])) (condB (!((cA.pl == dA.pl)&&((cA.pc == dA.pc)&&true))) (some ((.bool false),[])) (condB (eA != fA) (some ((.bool false),[])) (k3 l0 t7 e8)))))
noncomputable def sh3 (l0:List Df) (t7:List UInt8) (e8:Int):R :=
  condB (!(validB (16777216:Int) l0)) (condB (t7 == ([]:List UInt8)) (some ((.bool (e8 == (1:Int))),[])) (some ((.bool false),[]))) (chk (validB 16777216 l0) (condB (t7 == (linesS l0)) (some ((.bool (e8 == (0:Int))),[])) (some ((.bool false),[]))))
noncomputable def ct1:Kont U El:=fun st=>exec X (cdp [1,1,1] bd) (.seq none .d (.seq none .d (.seq none .d (.seq none .d (.seq (some nm2) .d (.seq (some nm3) .d .d)))))) st RR (fun _ _=>none) RR
noncomputable def ct2:Kont U El:=fun st=>exec X (cdp [1,1,1,1,1,1,1,1] bd) (.seq (some nm3) .d .d) st RR (fun _ _=>none) RR
noncomputable def ct3:Kont U El:=fun st=>exec X (cdp [1,1,1,1,1,1,1,1,1] bd) .d st RR (fun _ _=>none) RR
theorem P0 (l L s):exec X (cdp [] bd) (.seq none .d (.seq none .d (.seq (some nm1) .d (.seq none .d (.seq none .d (.seq none .d (.seq none .d (.seq (some nm2) .d (.seq (some nm3) .d .d))))))))) (fr0 l L s) RR (fun _ _=>none) RR=sh0 l L s (fun y0 y1 y2=>(hid ct1) (fr1 y0 y1 y2)):=by kernel_rfl
theorem P1 (l0 aA s2):ct1 (fr1 l0 aA s2)=sh1 l0 aA s2 (fun y0 y1 y2 y3 y4 y5 y6 y7 y8 y9=>(hid ct2) (fr2 y0 y1 y2 y3 y4 y5 y6 y7 y8 y9)):=by kernel_rfl
theorem P2 (l0 aA t7 e8 x9 eA bA fA cA dA):ct2 (fr2 l0 aA t7 e8 x9 eA bA fA cA dA)=sh2 l0 aA t7 e8 x9 eA bA fA cA dA (fun y0 y1 y2=>(hid ct3) (fr3 y0 y1 y2)):=by kernel_rfl
theorem P3 (l0 t7 e8):ct3 (fr3 l0 t7 e8)=sh3 l0 t7 e8:=by kernel_rfl
noncomputable def f3 (l0:List Df) (t7:List UInt8) (e8:Int):R:=sh3 l0 t7 e8
noncomputable def f2 (l0:List Df) (aA:Int) (t7:List UInt8) (e8:Int) (x9:List Df) (eA:Int) (bA:List Df) (fA:Int) (cA:Pos) (dA:Pos):R:=sh2 l0 aA t7 e8 x9 eA bA fA cA dA f3
noncomputable def f1 (l0:List Df) (aA:Int) (s2:List UInt8):R:=sh1 l0 aA s2 f2
noncomputable def f0 (l:List Df) (L:Int) (s:List UInt8):R:=sh0 l L s f1
theorem T3 (l0 t7 e8):(hid ct3) (fr3 l0 t7 e8)=f3 l0 t7 e8:=by
  refine (congrFun (hid_eq _) _).trans <| (P3 l0 t7 e8).trans ?_
  show _=sh3 l0 t7 e8
  rfl
theorem T2 (l0 aA t7 e8 x9 eA bA fA cA dA):(hid ct2) (fr2 l0 aA t7 e8 x9 eA bA fA cA dA)=f2 l0 aA t7 e8 x9 eA bA fA cA dA:=by
  refine (congrFun (hid_eq _) _).trans <| (P2 l0 aA t7 e8 x9 eA bA fA cA dA).trans ?_
  show _=sh2 l0 aA t7 e8 x9 eA bA fA cA dA f3
  simp only [T3]
theorem T1 (l0 aA s2):(hid ct1) (fr1 l0 aA s2)=f1 l0 aA s2:=by
  refine (congrFun (hid_eq _) _).trans <| (P1 l0 aA s2).trans ?_
  show _=sh1 l0 aA s2 f2
  simp only [T2]
theorem T0 (l L s):exec X bd (.seq none .d (.seq none .d (.seq (some nm1) .d (.seq none .d (.seq none .d (.seq none .d (.seq none .d (.seq (some nm2) .d (.seq (some nm3) .d .d))))))))) (fr0 l L s) RR (fun _ _=>none) RR=f0 l L s:=by
  refine (P0 l L s).trans ?_
  show _=sh0 l L s f1
  simp only [T1]
theorem run (l L s):runFn X bd (.seq none .d (.seq none .d (.seq (some nm1) .d (.seq none .d (.seq none .d (.seq none .d (.seq none .d (.seq (some nm2) .d (.seq (some nm3) .d .d))))))))) nmR [6] [] [(.lst .df l),(.int .i64 L),(.str s)]=f0 l L s:=T0 l L s
theorem f3_true (l:List Df):f3 l (textS l) (textE l)=some (.bool true,[]):=by
  show sh3 l (textS l) (textE l)=_
  unfold sh3 textS textE
  cases hv:validB 16777216 l
  · rfl
  · simp only [Bool.not_true,condF,chkT,cond_true,beq_self_eq_true,condT]
theorem f2_true (l:List Df) (L:Int) (s:List UInt8):f2 l L (textS l) (textE l) (parL s) (parE s) (parL s) (parE s) (parP s) (parP s)=some (.bool true,[]):=by
  show sh2 l L (textS l) (textE l) (parL s) (parE s) (parL s) (parE s) (parP s) (parP s) f3=_
  unfold sh2
  have:=parL_len s
  rw [beq_self_eq_true,Bool.not_true,condF,nleT (by omega),chkT,eqD_same,Bool.not_true,condF,pos_same,Bool.not_true,condF,bne_self_eq_false,condF]
  exact f3_true l
theorem f0_eq (l:List Df) (L:Int) (s:List UInt8):f0 l L s=some (.bool true,[]):=by
  show sh0 l L s f1=_
  unfold sh0
  rw [Bool.not_true,condF]
  cases fewB l
  · rfl
  rw [Bool.not_true,condF]
  by_cases hs:(2000:Int) < Int.ofNat s.length
  · rw [iltT hs]; rfl
  rw [iltF (by omega),condF]
  simp only [Int.ofNat_eq_natCast] at hs
  show sh1 l L s f2=_
  unfold sh1
  rw [nleT (show s.length≤90000 by omega),chkT,chkT]
  have h:=f2_true l L s
  unfold parP at h ⊢
  cases hp:ilt 0 (parN s)
  · rw [hp] at h; exact h
  · rw [hp] at h; exact h
theorem ok:CtxOk Tryz.prog X:=ctxOk tab (spC awake.spOk (spC few.spOk (spC textF.spOk (spC parse.spOk (spC rparse.spOk (spC valid.spOk (spC rvalid.spOk (spC equalD.spOk (spC rtext.spOk spN))))))))) dpN
theorem okM:MOk Tryz.prog X:=fun g sp h=>by cases h
theorem spec (l:List Df) (L:Int) (s:List UInt8):CallSpec Tryz.prog E 3 [(.lst .df l),(.int .i64 L),(.str s)] (.bool (true)) [] :=
  runFn_sound ok okM Tryz.call3 Tryz.func3 (by kernel_rfl) (by kernel_rfl) (by kernel_rfl) (by show 3≤88; decide) (by decide) (by rfl) ((run l L s).trans (f0_eq l L s))
noncomputable def sp:Sp U El:=fun args k=>match args with
  | [.lst .df l,.int .i64 L,.str s]=>k (.bool (true)) []
  | _=>none
theorem spOk:SpOk Tryz.prog E 3 sp where
  det:=fun vs=>by
    unfold sp
    split
    · exact ⟨some (_,_),fun _=>rfl⟩
    · exact ⟨none,fun _=>rfl⟩
  ok:=fun vs k r h=>by
    unfold sp at h
    split at h
    · exact ⟨_,_,spec _ _ _,h⟩
    · cases h
end lawForms
end Go.Proofs.YtnhmhcobpbilhaaGreatDoor
