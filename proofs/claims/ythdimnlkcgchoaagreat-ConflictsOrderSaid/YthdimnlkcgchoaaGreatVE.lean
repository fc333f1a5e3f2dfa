import Derived.Test.YthdimnlkcgchoaaGreatVD
namespace Go.Proofs.YthdimnlkcgchoaaGreat
set_option linter.all false
set_option maxRecDepth 100000
theorem table_step {t:List Knot} (h:tableB t=true) {i:Nat} (hi:i+1 < t.length):t[i].kx < t[i+1].kx∧t[i].ky≤t[i+1].ky:=by
 simp only [tableB,Bool.and_eq_true] at h
 have:=allI_iff.1 h.2.2 (i+1) t[i+1] (List.getElem?_eq_getElem hi)
 simp only [knotBad,Nat.zero_add,Bool.not_eq_true',Bool.or_eq_false_iff,Bool.and_eq_false_iff] at this
 obtain ⟨_,_,h3⟩:=this
 rcases h3 with h3 | ⟨h3,h4⟩
 ·simp [nlt] at h3
 ·rw [Nat.add_sub_cancel,getD_lt (show i < t.length by omega)] at h3 h4
  have h3:=ileN h3
  have h4:=iltN h4
  omega
theorem table_mono {t:List Knot} (h:tableB t=true):∀ (n i:Nat) (hi:i+n < t.length),t[i].kx≤t[i+n].kx∧t[i].ky≤t[i+n].ky:=by
  intro n
  induction n with
  | zero=>intro i hi; exact ⟨Int.le_refl _,Int.le_refl _⟩
  | succ n ih =>
    intro i hi
    have h1:=ih i (by omega)
    have h2:=table_step h (i:=i+n) (by omega)
    exact ⟨Int.le_trans h1.1 (Int.le_of_lt h2.1),Int.le_trans h1.2 h2.2⟩
theorem curve_any {t:List Knot} (h:tableB t=true):(!(List.any t badKnot))=curveB t:=by
 obtain ⟨h1,_⟩:=tableB_len h
 rw [Bool.eq_iff_iff]
 unfold curveB
 rw [h,Bool.not_eq_true',List.any_eq_false]
 simp only [Bool.true_and,Bool.and_eq_true,headK,lastK,getD_lt h1,getD_lt (show t.length - 1 < t.length by omega)]
 have good:∀ x:Knot,¬ badKnot x=true↔(0≤x.kx∧x.kx≤4194304)∧(0≤x.ky∧x.ky≤1099511627776):=fun x=>by
  simp only [badKnot,Bool.or_eq_true,Bool.not_eq_true',not_or,Bool.not_eq_false,Bool.and_eq_true,ile,decide_eq_true_eq]
 constructor
 ·intro hall
  have a:=(good _).1 (hall t[0] (List.getElem_mem _))
  have b:=(good _).1 (hall t[t.length - 1] (List.getElem_mem _))
  exact ⟨ileT a.1.1,ileT b.1.2,ileT a.2.1,ileT b.2.2⟩
 ·rintro ⟨a1,a2,a3,a4⟩ x hx
  obtain ⟨i,hi,rfl⟩:=List.getElem_of_mem hx
  have a:=table_mono h i 0 (by omega)
  have b:=table_mono h (t.length - 1 - i) i (by omega)
  simp only [Nat.zero_add] at a
  have e:t[i+(t.length - 1 - i)]'(by omega)=t[t.length - 1]'(by omega):=by congr 1; omega
  rw [e] at b
  have a1:=ileI a1; have a2:=ileI a2; have a3:=ileI a3; have a4:=ileI a4
  exact (good _).2 ⟨⟨by omega,by omega⟩,⟨by omega,by omega⟩⟩
noncomputable def codeK (l:Lnk):Bool :=
 bif l.lk == 1 then (ile 1 l.ll&&ile l.ll 16777216)&&(inR 4194304 l.ld&&nameB l.lc) else bif l.lk == 2 then (ile 1 l.lw&&ile l.lw 1048576)
 else bif l.lk == 3 then (ile 1 l.lw&&ile l.lw 32768)&&(ile 1 l.lh&&ile l.lh 32768) else bif l.lk == 4 then inR 4194304 l.ld&&(ilt l.ld l.lu&&(tableB l.lv && !(List.any l.lv badKnot))) else false
theorem inR0:inR 4194304 0=true:=rfl
theorem code_link (l:Lnk):(nameB l.ln && (nameB l.lf && (nameB l.lt && (!(l.lf == l.lt) && (inR 4194304 l.lu && (sameK l (plainK l) && codeK l))))))=linkB l:=by
 unfold linkB
 congr 1; congr 1; congr 1; congr 1; congr 1
 obtain ⟨ln,lf,lt,lk,ll,lu,ld,lc,lw,lh,lv⟩:=l
 simp only [codeK]
 by_cases e1:lk=1
 ·subst e1
  simp only [sameK,plainK,beq_self_eq_true,cond_true,Bool.true_and,eqT_nil]
  generalize inR 4194304 ld=a,(lw == 0)=b,(lh == 0)=c,(Int.ofNat lv.length == 0)=d,(ile 1 ll&&ile ll 16777216)=e,nameB lc=f
  revert a b c d e f; decide
 ·by_cases e2:lk=2
  ·subst e2
   simp only [sameK,plainK,show ((2:Int) == 1)=false from rfl,cond_false,beq_self_eq_true,cond_true,Bool.true_and,eqT_nil]
   by_cases hd:ld=0
   ·subst hd; rw [inR0,beq_self_eq_true]
    generalize (ll == 0)=a,(lc == [])=b,(lh == 0)=c,(Int.ofNat lv.length == 0)=d,(ile 1 lw&&ile lw 1048576)=e
    revert a b c d e; decide
   ·rw [show (ld == 0)=false by simpa using hd]
    generalize (ll == 0)=a,(lc == [])=b,(lh == 0)=c,(Int.ofNat lv.length == 0)=d,(ile 1 lw&&ile lw 1048576)=e,inR 4194304 ld=f
    revert a b c d e f; decide
  ·by_cases e3:lk=3
   ·subst e3
    simp only [sameK,plainK,show ((3:Int) == 1)=false from rfl,show ((3:Int) == 2)=false from rfl,cond_false,beq_self_eq_true,cond_true,Bool.true_and,eqT_nil]
    by_cases hd:ld=0
    ·subst hd; rw [inR0,beq_self_eq_true]
     generalize (ll == 0)=a,(lc == [])=b,(ile 1 lh&&ile lh 32768)=c,(Int.ofNat lv.length == 0)=d,(ile 1 lw&&ile lw 32768)=e
     revert a b c d e; decide
    ·rw [show (ld == 0)=false by simpa using hd]
     generalize (ll == 0)=a,(lc == [])=b,(ile 1 lh&&ile lh 32768)=c,(Int.ofNat lv.length == 0)=d,(ile 1 lw&&ile lw 32768)=e,inR 4194304 ld=f
     revert a b c d e f; decide
   ·by_cases e4:lk=4
    ·subst e4
     simp only [sameK,plainK,show ((4:Int) == 1)=false from rfl,show ((4:Int) == 2)=false from rfl,show ((4:Int) == 3)=false from rfl,cond_false,beq_self_eq_true,cond_true,Bool.true_and,eqT_self]
     have hc:(tableB lv && !(List.any lv badKnot))=curveB lv:=by
      cases ht:tableB lv with
      | true=>rw [curve_any ht]; rfl
      | false=>unfold curveB; rw [ht]; rfl
     rw [hc]
     generalize (ll == 0)=a,(lc == [])=b,(lw == 0)=c,(lh == 0)=d,inR 4194304 ld=e,ilt ld lu=f,curveB lv=g
     revert a b c d e f g; decide
    ·rw [show (lk == 1)=false by simpa using e1,show (lk == 2)=false by simpa using e2,show (lk == 3)=false by simpa using e3,show (lk == 4)=false by simpa using e4]
     simp only [cond_false,Bool.and_false]
theorem bifF (b x:Bool):(bif b then x else false)=(b&&x):=by cases b<;>rfl
namespace rightLink
noncomputable def bd:Code:=(Tryz.f138.body).getD .skip
noncomputable def X:Ctx U El:=⟨E,tds,zeros,eqs,specOf [(139,isname.sp),(148,between.sp),(149,level.sp),(152,sameLink.sp),(153,plain.sp),(154,tvalid.sp),(155,rl1C.sp)],100000,97,dspecOf [],fun _=>none,fun _=>none⟩
noncomputable def nmR:Norm U:=⟨[],[2],[],[],[],[],[]⟩
noncomputable def RR:Kont U El:=fun st=>normK nmR st (retFin [2] [])
noncomputable def nm1:Norm U:=⟨[],[1],[1],[],[],[],[(1,10,.knot)]⟩
abbrev Y1:=(List UInt8)→(List UInt8)→(List UInt8)→Int→Int→Int→Int→(List UInt8)→Int→Int→(List Knot)→R
noncomputable def fr0 (l:Lnk):St U El:=⟨[(0,(.agg [(.str l.ln),(.str l.lf),(.str l.lt),(.int .i64 l.lk),(.int .i64 l.ll),(.int .i64 l.lu),(.int .i64 l.ld),(.str l.lc),(.int .i64 l.lw),(.int .i64 l.lh),(.lst .knot l.lv)]))],[]⟩
noncomputable def fr1 (iA:List UInt8) (jA:List UInt8) (kA:List UInt8) (cA:Int) (eA:Int) (hA:Int) (dA:Int) (gA:List UInt8) (bA:Int) (fA:Int) (aA:List Knot):St U El:=⟨[(1,(.ptr 1 0))],[(1,(.box 0 [(.str iA),(.str jA),(.str kA),(.int .i64 cA),(.int .i64 eA),(.int .i64 hA),(.int .i64 dA),(.str gA),(.int .i64 bA),(.int .i64 fA),(.lst .knot aA)]))]⟩
noncomputable def sh0 (l:Lnk) (k1:Y1):R :=
 condB (!(nameB l.ln)) (some ((.bool false),[])) (condB (!(nameB l.lf)) (some ((.bool false),[])) (condB (!(nameB l.lt)) (some ((.bool false),[])) (condB (l.lf == l.lt) (some ((.bool false),[])) (chk (nle (List.length ([l.lu]:List Int)) 90000) (condB (!(!(List.any ([l.lu]:List Int) notLev))) (some ((.bool false),[])) (chk (nle (List.length (Lnk.lv l)) 90000) (condB (!(sameK l (plainK l))) (some ((.bool false),[])) (k1 l.ln l.lf l.lt l.lk l.ll l.lu l.ld l.lc l.lw l.lh l.lv))))))))
noncomputable def sh1 (iA:List UInt8) (jA:List UInt8) (kA:List UInt8) (cA:Int) (eA:Int) (hA:Int) (dA:Int) (gA:List UInt8) (bA:Int) (fA:Int) (aA:List Knot):R :=
 condB (cA == (1:Int)) (condB ((ile (1:Int) eA&&ile eA (16777216:Int))) (chk (nle (List.length ([dA]:List Int)) 90000) (condB (!(List.any ([dA]:List Int) notLev)) (some ((.bool (nameB gA)),[])) (some ((.bool false),[])))) (some ((.bool false),[]))) (condB (cA == (2:Int)) (some ((.bool ((ile (1:Int) bA&&ile bA (1048576:Int)))),[])) (condB (cA == (3:Int)) (condB ((ile (1:Int) bA&&ile bA (32768:Int))) (some ((.bool ((ile (1:Int) fA&&ile fA (32768:Int)))),[])) (some ((.bool false),[]))) (condB (cA == (4:Int)) (chk (nle (List.length ([dA]:List Int)) 90000) (condB (!(List.any ([dA]:List Int) notLev)) (condB (ilt dA hA) (condB (tableB aA) (chk (nle (List.length aA) 90000) (some ((.bool (!(List.any aA badKnot))),[]))) (some ((.bool false),[]))) (some ((.bool false),[]))) (some ((.bool false),[])))) (some ((.bool false),[])))))
noncomputable def ct1:Kont U El:=fun st=>exec X (cdp [1,1] bd) .d st RR (fun _ _=>none) RR
theorem P0 (l):exec X (cdp [] bd) (.seq none .d (.seq (some nm1) .d .d)) (fr0 l) RR (fun _ _=>none) RR=sh0 l (fun y0 y1 y2 y3 y4 y5 y6 y7 y8 y9 y10=>(hid ct1) (fr1 y0 y1 y2 y3 y4 y5 y6 y7 y8 y9 y10)):=by kernel_rfl
theorem P1 (iA jA kA cA eA hA dA gA bA fA aA):ct1 (fr1 iA jA kA cA eA hA dA gA bA fA aA)=sh1 iA jA kA cA eA hA dA gA bA fA aA:=by kernel_rfl
noncomputable def f1 (iA:List UInt8) (jA:List UInt8) (kA:List UInt8) (cA:Int) (eA:Int) (hA:Int) (dA:Int) (gA:List UInt8) (bA:Int) (fA:Int) (aA:List Knot):R:=sh1 iA jA kA cA eA hA dA gA bA fA aA
noncomputable def f0 (l:Lnk):R:=sh0 l f1
theorem T1 (iA jA kA cA eA hA dA gA bA fA aA):(hid ct1) (fr1 iA jA kA cA eA hA dA gA bA fA aA)=f1 iA jA kA cA eA hA dA gA bA fA aA:=by
 refine (congrFun (hid_eq _) _).trans <| (P1 iA jA kA cA eA hA dA gA bA fA aA).trans ?_
 show _=sh1 iA jA kA cA eA hA dA gA bA fA aA
 rfl
theorem T0 (l):exec X bd (.seq none .d (.seq (some nm1) .d .d)) (fr0 l) RR (fun _ _=>none) RR=f0 l:=by
 refine (P0 l).trans ?_
 show _=sh0 l f1
 simp only [T1]
theorem run (l):runFn X bd (.seq none .d (.seq (some nm1) .d .d)) nmR [2] [] [(.agg [(.str l.ln),(.str l.lf),(.str l.lt),(.int .i64 l.lk),(.int .i64 l.ll),(.int .i64 l.lu),(.int .i64 l.ld),(.str l.lc),(.int .i64 l.lw),(.int .i64 l.lh),(.lst .knot l.lv)])]=f0 l:=T0 l
theorem f0_eq (l:Lnk) (h:nle (List.length (Lnk.lv l)) 90000=true):f0 l=outB (linkB l):=by
 rw [← code_link]
 show sh0 l f1=_
 unfold sh0
 rw [h,nleT (show ([l.lu]:List Int).length≤90000 by simp)]
 have h1:f1 l.ln l.lf l.lt l.lk l.ll l.lu l.ld l.lc l.lw l.lh l.lv=outB (codeK l):=by
  show sh1 l.ln l.lf l.lt l.lk l.ll l.lu l.ld l.lc l.lw l.lh l.lv=_
  unfold sh1 codeK
  rw [h,nleT (show ([l.ld]:List Int).length≤90000 by simp)]
  simp only [List.any_cons,List.any_nil,Bool.or_false,notLev_inR,oB,chkT,Bool.not_not,cAnd]
  simp only [cB,bifF]
 rw [h1]
 simp only [List.any_cons,List.any_nil,Bool.or_false,notLev_inR,oB,chkT,Bool.not_not,cNot,cAnd]
 cases l.lf == l.lt<;>simp only [condT,condF,Bool.not_true,Bool.not_false,Bool.false_and,Bool.true_and,Bool.and_false,cAnd]
theorem ok:CtxOk Tryz.prog X:=ctxOk tab (spC isname.spOk (spC between.spOk (spC level.spOk (spC sameLink.spOk (spC plain.spOk (spC tvalid.spOk (spC rl1C.spOk spN))))))) dpN
theorem okM:MOk Tryz.prog X:=fun g sp h=>by cases h
theorem spec (l:Lnk) (h:(nle (List.length (Lnk.lv l)) 90000)=true):CallSpec Tryz.prog E 138 [(.agg [(.str l.ln),(.str l.lf),(.str l.lt),(.int .i64 l.lk),(.int .i64 l.ll),(.int .i64 l.lu),(.int .i64 l.ld),(.str l.lc),(.int .i64 l.lw),(.int .i64 l.lh),(.lst .knot l.lv)])] (.bool (linkB l)) [] :=
 rfs ok okM Tryz.call138 Tryz.func138 ((run l).trans (f0_eq l h))
noncomputable def sp:Sp U El:=fun args k=>match args with
 | [.agg [.str l_ln,.str l_lf,.str l_lt,.int .i64 l_lk,.int .i64 l_ll,.int .i64 l_lu,.int .i64 l_ld,.str l_lc,.int .i64 l_lw,.int .i64 l_lh,.lst .knot l_lv]]=>chk (nle (List.length (Lnk.lv (⟨l_ln,l_lf,l_lt,l_lk,l_ll,l_lu,l_ld,l_lc,l_lw,l_lh,l_lv⟩:Lnk))) 90000) (k (.bool (linkB (⟨l_ln,l_lf,l_lt,l_lk,l_ll,l_lu,l_ld,l_lc,l_lw,l_lh,l_lv⟩:Lnk))) [])
 | _=>none
theorem spOk:SpOk Tryz.prog E 138 sp:=⟨fun vs=>by unfold sp;split;exact det_c _ _ _;exact ⟨none,fun _=>rfl⟩,fun vs k r h=>by unfold sp at h;split at h;(obtain ⟨h1,h2⟩:=chk_some h;exact ⟨_,_,spec ⟨_,_,_,_,_,_,_,_,_,_,_⟩ h1,h2⟩);cases h⟩
end rightLink
namespace rrightLink
noncomputable def bd:Code:=(Tryz.f84.body).getD .skip
noncomputable def X:Ctx U El:=⟨E,tds,zeros,eqs,specOf [(123,risname.sp),(125,rlevel.sp),(127,rwithin26.sp),(128,rcurve.sp)],100000,160,dspecOf [],fun _=>none,fun _=>none⟩
noncomputable def nmR:Norm U:=⟨[],[2],[],[],[],[],[]⟩
noncomputable def RR:Kont U El:=fun st=>normK nmR st (retFin [2] [])
noncomputable def nm1:Norm U:=⟨[],[1],[1],[],[],[],[(1,10,.knot)]⟩
abbrev Y1:=(List UInt8)→(List UInt8)→(List UInt8)→Int→Int→Int→Int→(List UInt8)→Int→Int→(List Knot)→R
noncomputable def fr0 (l:Lnk):St U El:=⟨[(0,(.agg [(.str l.ln),(.str l.lf),(.str l.lt),(.int .i64 l.lk),(.int .i64 l.ll),(.int .i64 l.lu),(.int .i64 l.ld),(.str l.lc),(.int .i64 l.lw),(.int .i64 l.lh),(.lst .knot l.lv)]))],[]⟩
noncomputable def fr1 (iA:List UInt8) (jA:List UInt8) (kA:List UInt8) (cA:Int) (eA:Int) (hA:Int) (dA:Int) (gA:List UInt8) (bA:Int) (fA:Int) (aA:List Knot):St U El:=⟨[(1,(.ptr 1 0))],[(1,(.box 0 [(.str iA),(.str jA),(.str kA),(.int .i64 cA),(.int .i64 eA),(.int .i64 hA),(.int .i64 dA),(.str gA),(.int .i64 bA),(.int .i64 fA),(.lst .knot aA)]))]⟩
noncomputable def sh0 (l:Lnk) (k1:Y1):R :=
 condB (!(nameB l.ln)) (some ((.bool false),[])) (condB (!(nameB l.lf)) (some ((.bool false),[])) (condB (!(nameB l.lt)) (some ((.bool false),[])) (condB (l.lf == l.lt) (some ((.bool false),[])) (condB (!(inR 4194304 l.lu)) (some ((.bool false),[])) (condB (!(inR 4194304 l.ld)) (some ((.bool false),[])) (k1 l.ln l.lf l.lt l.lk l.ll l.lu l.ld l.lc l.lw l.lh l.lv))))))
noncomputable def sh1 (iA:List UInt8) (jA:List UInt8) (kA:List UInt8) (cA:Int) (eA:Int) (hA:Int) (dA:Int) (gA:List UInt8) (bA:Int) (fA:Int) (aA:List Knot):R :=
 condB (cA == (1:Int)) (condB ((ile 1 eA&&ile eA (16777216:Int))) (condB (nameB gA) (condB (bA == (0:Int)) (condB (fA == (0:Int)) (some ((.bool ((Int.ofNat (List.length aA)) == (0:Int))),[])) (some ((.bool false),[]))) (some ((.bool false),[]))) (some ((.bool false),[]))) (some ((.bool false),[]))) (condB (cA == (2:Int)) (condB (eA == (0:Int)) (condB (dA == (0:Int)) (condB (gA == ([]:List UInt8)) (condB ((ile 1 bA&&ile bA (1048576:Int))) (condB (fA == (0:Int)) (some ((.bool ((Int.ofNat (List.length aA)) == (0:Int))),[])) (some ((.bool false),[]))) (some ((.bool false),[]))) (some ((.bool false),[]))) (some ((.bool false),[]))) (some ((.bool false),[]))) (condB (cA == (3:Int)) (condB (eA == (0:Int)) (condB (dA == (0:Int)) (condB (gA == ([]:List UInt8)) (condB ((ile 1 bA&&ile bA (32768:Int))) (condB ((ile 1 fA&&ile fA (32768:Int))) (some ((.bool ((Int.ofNat (List.length aA)) == (0:Int))),[])) (some ((.bool false),[]))) (some ((.bool false),[]))) (some ((.bool false),[]))) (some ((.bool false),[]))) (some ((.bool false),[]))) (condB (cA == (4:Int)) (condB (eA == (0:Int)) (condB (ilt dA hA) (condB (gA == ([]:List UInt8)) (condB (bA == (0:Int)) (condB (fA == (0:Int)) (some ((.bool (curveB aA)),[])) (some ((.bool false),[]))) (some ((.bool false),[]))) (some ((.bool false),[]))) (some ((.bool false),[]))) (some ((.bool false),[]))) (some ((.bool false),[])))))
noncomputable def ct1:Kont U El:=fun st=>exec X (cdp [1,1] bd) .d st RR (fun _ _=>none) RR
theorem P0 (l):exec X (cdp [] bd) (.seq none .d (.seq (some nm1) .d .d)) (fr0 l) RR (fun _ _=>none) RR=sh0 l (fun y0 y1 y2 y3 y4 y5 y6 y7 y8 y9 y10=>(hid ct1) (fr1 y0 y1 y2 y3 y4 y5 y6 y7 y8 y9 y10)):=by kernel_rfl
theorem P1 (iA jA kA cA eA hA dA gA bA fA aA):ct1 (fr1 iA jA kA cA eA hA dA gA bA fA aA)=sh1 iA jA kA cA eA hA dA gA bA fA aA:=by kernel_rfl
noncomputable def f1 (iA:List UInt8) (jA:List UInt8) (kA:List UInt8) (cA:Int) (eA:Int) (hA:Int) (dA:Int) (gA:List UInt8) (bA:Int) (fA:Int) (aA:List Knot):R:=sh1 iA jA kA cA eA hA dA gA bA fA aA
noncomputable def f0 (l:Lnk):R:=sh0 l f1
theorem T1 (iA jA kA cA eA hA dA gA bA fA aA):(hid ct1) (fr1 iA jA kA cA eA hA dA gA bA fA aA)=f1 iA jA kA cA eA hA dA gA bA fA aA:=by
 refine (congrFun (hid_eq _) _).trans <| (P1 iA jA kA cA eA hA dA gA bA fA aA).trans ?_
 show _=sh1 iA jA kA cA eA hA dA gA bA fA aA
 rfl
theorem T0 (l):exec X bd (.seq none .d (.seq (some nm1) .d .d)) (fr0 l) RR (fun _ _=>none) RR=f0 l:=by
 refine (P0 l).trans ?_
 show _=sh0 l f1
 simp only [T1]
theorem run (l):runFn X bd (.seq none .d (.seq (some nm1) .d .d)) nmR [2] [] [(.agg [(.str l.ln),(.str l.lf),(.str l.lt),(.int .i64 l.lk),(.int .i64 l.ll),(.int .i64 l.lu),(.int .i64 l.ld),(.str l.lc),(.int .i64 l.lw),(.int .i64 l.lh),(.lst .knot l.lv)])]=f0 l:=T0 l
theorem f0_eq (l:Lnk):f0 l=outB (linkB l):=by
  show sh0 l f1=_
  unfold sh0 linkB
  have h1:f1 l.ln l.lf l.lt l.lk l.ll l.lu l.ld l.lc l.lw l.lh l.lv=outB (bif l.lk == 1 then (ile 1 l.ll&&ile l.ll 16777216)&&(nameB l.lc&&((l.lw == 0)&&((l.lh == 0)&&(Int.ofNat l.lv.length == 0))))
     else bif l.lk == 2 then (l.ll == 0)&&((l.ld == 0)&&((l.lc == [])&&((ile 1 l.lw&&ile l.lw 1048576)&&((l.lh == 0)&&(Int.ofNat l.lv.length == 0)))))
     else bif l.lk == 3 then (l.ll == 0)&&((l.ld == 0)&&((l.lc == [])&&((ile 1 l.lw&&ile l.lw 32768)&&((ile 1 l.lh&&ile l.lh 32768)&&(Int.ofNat l.lv.length == 0)))))
     else bif l.lk == 4 then (l.ll == 0)&&(ilt l.ld l.lu&&((l.lc == [])&&((l.lw == 0)&&((l.lh == 0)&&curveB l.lv))))
     else false):=by
    show sh1 l.ln l.lf l.lt l.lk l.ll l.lu l.ld l.lc l.lw l.lh l.lv=_
    unfold sh1
    simp only [oB,cAnd]
    simp only [cB,bifF]
  rw [h1]
  simp only [oB,cNot,cAnd]
  cases l.lf == l.lt<;>simp only [condT,condF,Bool.not_true,Bool.not_false,Bool.false_and,Bool.true_and,Bool.and_false,cAnd]
theorem ok:CtxOk Tryz.prog X:=ctxOk tab (spC risname.spOk (spC rlevel.spOk (spC rwithin26.spOk (spC rcurve.spOk spN)))) dpN
theorem okM:MOk Tryz.prog X:=fun g sp h=>by cases h
theorem spec (l:Lnk):CallSpec Tryz.prog E 84 [(.agg [(.str l.ln),(.str l.lf),(.str l.lt),(.int .i64 l.lk),(.int .i64 l.ll),(.int .i64 l.lu),(.int .i64 l.ld),(.str l.lc),(.int .i64 l.lw),(.int .i64 l.lh),(.lst .knot l.lv)])] (.bool (linkB l)) [] :=
 rfs ok okM Tryz.call84 Tryz.func84 ((run l).trans (f0_eq l))
noncomputable def sp:Sp U El:=fun args k=>match args with
 | [.agg [.str l_ln,.str l_lf,.str l_lt,.int .i64 l_lk,.int .i64 l_ll,.int .i64 l_lu,.int .i64 l_ld,.str l_lc,.int .i64 l_lw,.int .i64 l_lh,.lst .knot l_lv]]=>k (.bool (linkB (⟨l_ln,l_lf,l_lt,l_lk,l_ll,l_lu,l_ld,l_lc,l_lw,l_lh,l_lv⟩:Lnk))) []
 | _=>none
theorem spOk:SpOk Tryz.prog E 84 sp:=⟨fun vs=>by unfold sp;split;exact ⟨some (_,_),fun _=>rfl⟩;exact ⟨none,fun _=>rfl⟩,fun vs k r h=>by unfold sp at h;split at h;exact ⟨_,_,spec ⟨_,_,_,_,_,_,_,_,_,_,_⟩,h⟩;cases h⟩
end rrightLink
end Go.Proofs.YthdimnlkcgchoaaGreat
