/- The document's Text. -/
import Derived.Test.YtnhmhcobpbilhaaGreatDoorFM
import Derived.Test.YtnhmhcobpbilhaaGreatDoorVT
namespace Go.Proofs.YtnhmhcobpbilhaaGreatDoor
set_option linter.unusedSectionVars false
set_option linter.unusedSimpArgs false
set_option linter.unusedVariables false
set_option maxRecDepth 100000
theorem fmt_ok {n:Int} (h0:0≤n) (h1:n≤16777216):(ile (-1000000000000) n&&(ile n 1000000000000&&((0:Int) == (0:Int))))=true:=by
  rw [ileT (by omega),ileT (by omega)]
  rfl
namespace rtext
noncomputable def bd:Code:=(Tryz.f13.body).getD .skip
noncomputable def X:Ctx U El:=⟨E,tds,zeros,eqs,specOf [(31,format.sp)],100000,37,dspecOf [],fun _=>none⟩
noncomputable def nmR:Norm U:=⟨[],[2],[],[],[],[],[]⟩
noncomputable def RR:Kont U El:=fun st=>normK nmR st (retFin [2] [])
noncomputable def nm1:Norm U:=⟨[],[3],[],[],[],[],[]⟩
noncomputable def nm2:Norm U:=⟨[],[0,3,4],[],[],[],[],[]⟩
abbrev Y1:=(List UInt8)→R
abbrev Y2:=(List Df)→(List UInt8)→Int→R
noncomputable def fr0 (l:List Df):St U El:=⟨[(0,(.lst .df l))],[]⟩
noncomputable def fr1 (aA:List UInt8):St U El:=⟨[(3,(.str aA))],[]⟩
noncomputable def fr2 (l0:List Df) (aA:List UInt8) (i4:Int):St U El:=⟨[(0,(.lst .df l0)),(3,(.str aA)),(4,(.int .i64 i4))],[]⟩
noncomputable def sh0 (l:List Df) (k2:Y2):R :=
  k2 l ([]:List UInt8) (0:Int)
noncomputable def sh1 (aA:List UInt8):R :=
  some ((.str aA),[])
noncomputable def sh2 (l0:List Df) (aA:List UInt8) (i4:Int) (k1:Y1) (k2:Y2):R :=
  condB (ilt i4 (Int.ofNat (List.length l0))) (chk (inb i4 (List.length l0)) (chk (nle (List.length aA+List.length ((List.getD l0 (Int.toNat i4) d_df).c)) 9223372036854775807) (chk (nle (List.length (aA++(List.getD l0 (Int.toNat i4) d_df).c)+List.length ([32]:List UInt8)) 9223372036854775807) (chk ((ile (-1000000000000) ((List.getD l0 (Int.toNat i4) d_df).a)&&(ile ((List.getD l0 (Int.toNat i4) d_df).a) 1000000000000&&((0:Int) == (0:Int))))) (chk (nle (List.length ((aA++(List.getD l0 (Int.toNat i4) d_df).c)++([32]:List UInt8))+List.length (Lib.itoa ((List.getD l0 (Int.toNat i4) d_df).a))) 9223372036854775807) (chk (nle (List.length (((aA++(List.getD l0 (Int.toNat i4) d_df).c)++([32]:List UInt8))++(Lib.itoa ((List.getD l0 (Int.toNat i4) d_df).a)))+List.length ([32]:List UInt8)) 9223372036854775807) (chk ((ile (-1000000000000) ((List.getD l0 (Int.toNat i4) d_df).l)&&(ile ((List.getD l0 (Int.toNat i4) d_df).l) 1000000000000&&((0:Int) == (0:Int))))) (chk (nle (List.length ((((aA++(List.getD l0 (Int.toNat i4) d_df).c)++([32]:List UInt8))++(Lib.itoa ((List.getD l0 (Int.toNat i4) d_df).a)))++([32]:List UInt8))+List.length (Lib.itoa ((List.getD l0 (Int.toNat i4) d_df).l))) 9223372036854775807) (chk (nle (List.length (((((aA++(List.getD l0 (Int.toNat i4) d_df).c)++([32]:List UInt8))++(Lib.itoa ((List.getD l0 (Int.toNat i4) d_df).a)))++([32]:List UInt8))++(Lib.itoa ((List.getD l0 (Int.toNat i4) d_df).l)))+List.length ([32]:List UInt8)) 9223372036854775807) (chk ((ile (-1000000000000) ((List.getD l0 (Int.toNat i4) d_df).s)&&(ile ((List.getD l0 (Int.toNat i4) d_df).s) 1000000000000&&((0:Int) == (0:Int))))) (chk (nle (List.length ((((((aA++(List.getD l0 (Int.toNat i4) d_df).c)++([32]:List UInt8))++(Lib.itoa ((List.getD l0 (Int.toNat i4) d_df).a)))++([32]:List UInt8))++(Lib.itoa ((List.getD l0 (Int.toNat i4) d_df).l)))++([32]:List UInt8))+List.length (Lib.itoa ((List.getD l0 (Int.toNat i4) d_df).s))) 9223372036854775807) (chk (nle (List.length (((((((aA++(List.getD l0 (Int.toNat i4) d_df).c)++([32]:List UInt8))++(Lib.itoa ((List.getD l0 (Int.toNat i4) d_df).a)))++([32]:List UInt8))++(Lib.itoa ((List.getD l0 (Int.toNat i4) d_df).l)))++([32]:List UInt8))++(Lib.itoa ((List.getD l0 (Int.toNat i4) d_df).s)))+List.length ([10]:List UInt8)) 9223372036854775807) (k2 l0 ((((((((aA++(List.getD l0 (Int.toNat i4) d_df).c)++([32]:List UInt8))++(Lib.itoa ((List.getD l0 (Int.toNat i4) d_df).a)))++([32]:List UInt8))++(Lib.itoa ((List.getD l0 (Int.toNat i4) d_df).l)))++([32]:List UInt8))++(Lib.itoa ((List.getD l0 (Int.toNat i4) d_df).s)))++([10]:List UInt8)) (IntKind.wrap .i64 (i4+(1:Int)))))))))))))))) (k1 aA)
noncomputable def it2 (Kb1:Kont U El) (n:Nat):Kont U El:=iter nm2 (fun st' K'=>exec X (cdp [1,1,0,1,0,0] bd) .d st' K' (Eblk 0 (cutK nm1 Kb1) (fun _ _=>none)) RR) n
noncomputable def ct1:Kont U El:=fun st=>exec X (cdp [1,1,1] bd) .d st RR (fun _ _=>none) RR
theorem P0 (l):exec X (cdp [] bd) (.seq none .d (.seq none .d (.seq (some nm1) (.seq none .d (.block (.loop nm2 .d))) .d))) (fr0 l) RR (fun _ _=>none) RR=sh0 l (fun y0 y1 y2=>(hid (it2 (hid ct1) 100000)) (fr2 y0 y1 y2)):=by kernel_rfl
theorem P1 (aA):ct1 (fr1 aA)=sh1 aA:=by kernel_rfl
theorem P2 (l0 aA i4) (Kb1 Kb2:Kont U El):exec X (cdp [1,1,0,1,0,0] bd) .d (fr2 l0 aA i4) (cutK nm2 Kb2) (Eblk 0 (cutK nm1 Kb1) (fun _ _=>none)) RR=sh2 l0 aA i4 (fun y0=>Kb1 (fr1 y0)) (fun y0 y1 y2=>Kb2 (fr2 y0 y1 y2)):=by kernel_rfl
noncomputable def f1 (aA:List UInt8):R:=sh1 aA
noncomputable def f2:Nat→Y2
  | 0=>fun _ _ _=>none
  | n+1=>fun l0 aA i4=>sh2 l0 aA i4 f1 (f2 n)
noncomputable def f0 (l:List Df):R:=sh0 l (f2 100000)
theorem T1 (aA):(hid ct1) (fr1 aA)=f1 aA:=by
  refine (congrFun (hid_eq _) _).trans <| (P1 aA).trans ?_
  show _=sh1 aA
  rfl
theorem T2:∀ (n:Nat),∀ l0 aA i4,it2 (hid ct1) n (fr2 l0 aA i4)=f2 n l0 aA i4:=by
  intro n
  induction n with
  | zero=>intros; rfl
  | succ n ih =>
    intro l0 aA i4
    refine (P2 l0 aA i4 (hid ct1) (it2 (hid ct1) n)).trans ?_
    show _=sh2 l0 aA i4 f1 (f2 n)
    simp only [T1,ih]
theorem H2 (l0 aA i4):hid (it2 (hid ct1) 100000) (fr2 l0 aA i4)=f2 100000 l0 aA i4:=(congrFun (hid_eq _) _).trans (T2 100000 l0 aA i4)
theorem T0 (l):exec X bd (.seq none .d (.seq none .d (.seq (some nm1) (.seq none .d (.block (.loop nm2 .d))) .d))) (fr0 l) RR (fun _ _=>none) RR=f0 l:=by
  refine (P0 l).trans ?_
  show _=sh0 l (f2 100000)
  simp only [H2]
theorem run (l):runFn X bd (.seq none .d (.seq none .d (.seq (some nm1) (.seq none .d (.block (.loop nm2 .d))) .d))) nmR [2] [] [(.lst .df l)]=f0 l:=T0 l
theorem loop (l:List Df) (hl:l.length≤1000) (hr:∀ d∈l,rightB 16777216 d=true):∀ (n i:Nat) (out:List UInt8),l.length < n+i→i≤l.length→out.length≤40 * i→f2 n l out (i:Int)=some ((.str (out++linesS (l.drop i))),[]):=by
  intro n
  induction n with
  | zero=>intro i out h1 h2; omega
  | succ n ih =>
    intro i out h1 h2 h3
    show sh2 l out (i:Int) f1 (f2 n)=_
    unfold sh2
    by_cases hi:i < l.length
    · have hd := hr l[i] (List.getElem_mem hi)
      have hs:=line_short hd
      obtain ⟨_,x1,x2,x3⟩:=right_lim hd
      simp only [lineS,numsS,List.length_append,List.length_cons,List.length_nil] at hs
      rw [iltT (by simp; omega),condT,inbT hi,chkT,toNat_nat,getD_lt hi,fmt_ok x1.1 x1.2,chkT,fmt_ok x2.1 x2.2,chkT,fmt_ok (show 0≤l[i].s by omega) (by omega),chkT]
      iterate 8 rw [nleT (by first | omega | (simp only [List.length_append,List.length_cons,List.length_nil]; omega)),chkT]
      rw [wrapS i (by omega)]
      refine (ih (i+1) _ (by omega) hi (by simp only [List.length_append,List.length_cons,List.length_nil]; omega)).trans ?_
      rw [drop_lt hi]
      simp only [linesS,lineS,numsS,List.append_assoc,List.append_nil]
    · have : i = l.length := by omega
      subst this
      rw [iltF (by simp),List.drop_length]
      simp only [linesS,List.append_nil]
      rfl
theorem f0_eq (l:List Df) (h:validB 16777216 l=true):f0 l=some ((.str (linesS l)),[]):=by
  have:=loop l (valid_len h) (valid_right h) 100000 0 [] (by have:=valid_len h; omega) (by omega) (by simp)
  exact this
theorem ok:CtxOk Tryz.prog X:=ctxOk tab (spC format.spOk spN) dpN
theorem okM:MOk Tryz.prog X:=fun g sp h=>by cases h
theorem spec (l:List Df) (h:(validB 16777216 l)=true):CallSpec Tryz.prog E 13 [(.lst .df l)] (.str (linesS l)) [] :=
  runFn_sound ok okM Tryz.call13 Tryz.func13 (by kernel_rfl) (by kernel_rfl) (by kernel_rfl) (by show 1≤37; decide) (by decide) (by rfl) ((run l).trans (f0_eq l h))
noncomputable def sp:Sp U El:=fun args k=>match args with
  | [.lst .df l]=>chk (validB 16777216 l) (k (.str (linesS l)) [])
  | _=>none
theorem spOk:SpOk Tryz.prog E 13 sp where
  det:=fun vs=>by
    unfold sp
    split
    · exact det_c _ _ _
    · exact ⟨none,fun _=>rfl⟩
  ok:=fun vs k r h=>by
    unfold sp at h
    split at h
    · obtain ⟨h1, h2⟩ := chk_some h
      exact ⟨_,_,spec _ h1,h2⟩
    · cases h
end rtext
end Go.Proofs.YtnhmhcobpbilhaaGreatDoor
