/- Right, the order, Valid: the code's and the document's. -/
import Derived.Test.YtnhmhcobpbilhaaGreatDoorVB
namespace Go.Proofs.YtnhmhcobpbilhaaGreatDoor
variable [Drw]
set_option linter.unusedSectionVars false
set_option linter.unusedSimpArgs false
set_option linter.unusedVariables false
set_option maxRecDepth 100000
noncomputable def pos16 (L:Int):Bool:=ile 1 L&&ile L 16777216
theorem pos16_iff {L:Int}:pos16 L=true↔1≤L∧L≤16777216:=by simp [pos16,ile]
noncomputable def rightB (L:Int) (d:Df):Bool:=ilt 0 (pointsZ d.c)&&(ile 0 d.a&&(ile d.a L&&(ile 0 d.l&&(ile d.l (L - d.a)&&(ile 1 d.s&&ile d.s 5)))))
noncomputable def beforeB (d e:Df):Bool:=bif d.a != e.a then ilt d.a e.a else bif !(d.c == e.c) then slt d.c e.c else bif d.l != e.l then ilt d.l e.l else ilt d.s e.s
theorem cmpZ_cases (a b:Int):(a < b∧cmpZ a b = -1)∨(a=b∧cmpZ a b=0)∨(b < a∧cmpZ a b=1):=by
  unfold cmpZ
  by_cases h:a < b
  · left; rw [iltT h]; exact ⟨h,rfl⟩
  · by_cases h2 : b < a
    · right; right; rw [iltF h,iltT h2]; exact ⟨h2,rfl⟩
    · right; left; rw [iltF h,iltF h2]; exact ⟨by omega,rfl⟩
theorem cmpS_cases (a b:List UInt8):(slt a b=true∧(a == b)=false∧cmpS a b = -1)∨((a == b)=true∧cmpS a b=0)∨(slt a b=false∧(a == b)=false∧cmpS a b=1):=by
  unfold cmpS
  by_cases e:a=b
  · subst e; right; left; simp [slt_irrefl]
  · have e2 : (a == b) = false := by simpa using e
    cases h:slt a b
    · right; right; simp [e2]
    · left; simp [e2]
theorem before_compare (d e : Df) : ile 0 (compareZ d e) = !(beforeB d e) := by
  unfold compareZ beforeB
  rcases cmpZ_cases d.a e.a with ⟨h,e1⟩ | ⟨h,e1⟩ | ⟨h,e1⟩
  · rw [e1,show (d.a != e.a)=true by simp; omega,iltT h]; rfl
  · rw [e1, show (d.a != e.a) = false by simp [h]]
    rcases cmpS_cases d.c e.c with ⟨h,h3,e2⟩ | ⟨h3,e2⟩ | ⟨h,h3,e2⟩
    · rw [e2,h3,h]; rfl
    · rw [e2, h3]
      rcases cmpZ_cases d.l e.l with ⟨h,e1⟩ | ⟨h,e1⟩ | ⟨h,e1⟩
      · rw [e1,show (d.l != e.l)=true by simp; omega,iltT h]; rfl
      · rw [e1, show (d.l != e.l) = false by simp [h]]
        rcases cmpZ_cases d.s e.s with ⟨h,e1⟩ | ⟨h,e1⟩ | ⟨h,e1⟩
        · rw [e1,iltT h]; rfl
        · rw [e1,iltF (show ¬ d.s < e.s by omega)]; rfl
        · rw [e1,iltF (show ¬ d.s < e.s by omega)]; rfl
      · rw [e1,show (d.l != e.l)=true by simp; omega,iltF (show ¬ d.l < e.l by omega)]; rfl
    · rw [e2,h3,h]; rfl
  · rw [e1,show (d.a != e.a)=true by simp; omega,iltF (by omega)]; rfl
noncomputable def befO:Option Df→Df→Bool
  | none,_=>true
  | some q,d=>beforeB q d
noncomputable def chainB (L:Int):Option Df→List Df→Bool
  | _,[]=>true
  | p,d :: l=>rightB L d&&(befO p d&&chainB L (some d) l)
theorem befO_some (q d:Df):befO (some q) d=beforeB q d:=rfl
noncomputable def validB (L:Int) (l:List Df):Bool:=pos16 L&&(nle l.length 1000&&chainB L none l)
noncomputable def prev (l:List Df):Nat→Option Df
  | 0=>none
  | i+1=>l[i]?
namespace right
noncomputable def bd:Code:=(Tryz.f27.body).getD .skip
noncomputable def X:Ctx U El:=⟨E,tds,zeros,eqs,specOf [(50,points.sp)],100000,44,dspecOf [],fun _=>none⟩
noncomputable def nmR:Norm U:=⟨[],[4],[],[],[],[],[]⟩
noncomputable def RR:Kont U El:=fun st=>normK nmR st (retFin [4] [])
noncomputable def fr0 (d:Df) (L:Int):St U El:=⟨[(0,(.agg [(.str d.c),(.int .i64 d.a),(.int .i64 d.l),(.int .i64 d.s)])),(1,(.int .i64 L))],[]⟩
noncomputable def sh0 (d:Df) (L:Int):R :=
  condB (ilt (0:Int) (pointsZ d.c)) (condB (ile (0:Int) d.a) (condB (ile d.a L) (condB (ile (0:Int) d.l) (condB (ile d.l (IntKind.wrap .i64 (L - d.a))) (condB (ile (1:Int) d.s) (some ((.bool (ile d.s (5:Int))),[])) (some ((.bool false),[]))) (some ((.bool false),[]))) (some ((.bool false),[]))) (some ((.bool false),[]))) (some ((.bool false),[]))) (some ((.bool false),[]))
theorem P0 (d L):exec X (cdp [] bd) .d (fr0 d L) RR (fun _ _=>none) RR=sh0 d L:=by kernel_rfl
noncomputable def f0 (d:Df) (L:Int):R:=sh0 d L
theorem T0 (d L):exec X bd .d (fr0 d L) RR (fun _ _=>none) RR=f0 d L:=by
  refine (P0 d L).trans ?_
  show _=sh0 d L
  rfl
theorem run (d L):runFn X bd .d nmR [4] [] [(.agg [(.str d.c),(.int .i64 d.a),(.int .i64 d.l),(.int .i64 d.s)]),(.int .i64 L)]=f0 d L:=T0 d L
theorem f0_eq (d:Df) (L:Int) (h:pos16 L=true):f0 d L=some (.bool (rightB L d),[]):=by
  have hL:=pos16_iff.1 h
  unfold f0 sh0 rightB
  cases h1:ilt 0 (pointsZ d.c); · rfl
  cases h2:ile 0 d.a; · rfl
  cases h3:ile d.a L; · rfl
  have e2:0≤d.a:=of_decide_eq_true h2
  have e3:d.a≤L:=of_decide_eq_true h3
  rw [wrapI (by omega) (by omega)]
  cases ile 0 d.l; · rfl
  cases ile d.l (L - d.a); · rfl
  cases ile 1 d.s; · rfl
  rfl
theorem ok:CtxOk Tryz.prog X:=ctxOk tab (spC points.spOk spN) dpN
theorem okM:MOk Tryz.prog X:=fun g sp h=>by cases h
theorem spec (d:Df) (L:Int) (h:(pos16 L)=true):CallSpec Tryz.prog E 27 [(.agg [(.str d.c),(.int .i64 d.a),(.int .i64 d.l),(.int .i64 d.s)]),(.int .i64 L)] (.bool (rightB L d)) [] :=
  runFn_sound ok okM Tryz.call27 Tryz.func27 (by kernel_rfl) (by kernel_rfl) (by kernel_rfl) (by show 2≤44; decide) (by decide) (by rfl) ((run d L).trans (f0_eq d L h))
noncomputable def sp:Sp U El:=fun args k=>match args with
  | [.agg [.str d_c,.int .i64 d_a,.int .i64 d_l,.int .i64 d_s],.int .i64 L]=>chk (pos16 L) (k (.bool (rightB L (⟨d_c,d_a,d_l,d_s⟩:Df))) [])
  | _=>none
theorem spOk:SpOk Tryz.prog E 27 sp where
  det:=fun vs=>by
    unfold sp
    split
    · exact det_c _ _ _
    · exact ⟨none,fun _=>rfl⟩
  ok:=fun vs k r h=>by
    unfold sp at h
    split at h
    · obtain ⟨h1, h2⟩ := chk_some h
      exact ⟨_,_,spec ⟨_,_,_,_⟩ _ h1,h2⟩
    · cases h
end right
theorem prev_lt {l:List Df} {i:Nat} (h:i < l.length):prev l (i+1)=some l[i]:=List.getElem?_eq_getElem h
namespace valid
noncomputable def bd:Code:=(Tryz.f10.body).getD .skip
noncomputable def X:Ctx U El:=⟨E,tds,zeros,eqs,specOf [(27,right.sp),(28,compare.sp)],100000,44,dspecOf [],fun _=>none⟩
noncomputable def nmR:Norm U:=⟨[],[4],[],[],[],[],[]⟩
noncomputable def RR:Kont U El:=fun st=>normK nmR st (retFin [4] [])
noncomputable def nm1:Norm U:=⟨[],[0,1],[],[],[],[],[]⟩
noncomputable def nm2:Norm U:=⟨[],[],[],[],[],[],[]⟩
noncomputable def nm3:Norm U:=⟨[],[0,1,18,19,20],[],[],[],[],[]⟩
noncomputable def nm4:Norm U:=⟨[],[0,1,18,19,20,30,31,32,41],[],[],[],[],[]⟩
abbrev Y1:=(List Df)→Int→R
abbrev Y2:=R
abbrev Y3:=(List Df)→Int→(List Df)→Int→Int→R
abbrev Y4:=(List Df)→Int→(List Df)→Int→Int→Int→Bool→Bool→Bool→R
noncomputable def fr0 (l:List Df) (L:Int):St U El:=⟨[(0,(.lst .df l)),(1,(.int .i64 L))],[]⟩
noncomputable def fr1 (l0:List Df) (aA:Int):St U El:=⟨[(0,(.lst .df l0)),(1,(.int .i64 aA))],[]⟩
noncomputable def fr2:St U El:=⟨[],[]⟩
noncomputable def fr3 (l0:List Df) (aA:Int) (fA:List Df) (gA:Int) (eA:Int):St U El:=⟨[(0,(.lst .df l0)),(1,(.int .i64 aA)),(18,(.lst .df fA)),(19,(.int .i64 gA)),(20,(.int .i64 eA))],[]⟩
noncomputable def fr4 (l0:List Df) (aA:Int) (fA:List Df) (gA:Int) (eA:Int) (jA:Int) (hA:Bool) (iA:Bool) (lA:Bool):St U El:=⟨[(0,(.lst .df l0)),(1,(.int .i64 aA)),(18,(.lst .df fA)),(19,(.int .i64 gA)),(20,(.int .i64 eA)),(30,(.int .i64 jA)),(31,(.bool hA)),(32,(.bool iA)),(41,(.bool lA))],[]⟩
noncomputable def sh0 (l:List Df) (L:Int) (k1:Y1):R :=
  condB (ilt L (1:Int)) (some ((.bool false),[])) (condB (ilt (16777216:Int) L) (some ((.bool false),[])) (condB (ilt (1000:Int) (Int.ofNat (List.length l))) (some ((.bool false),[])) (k1 l L)))
noncomputable def sh1 (l0:List Df) (aA:Int) (k3:Y3):R :=
  k3 l0 aA l0 (Int.ofNat (List.length l0)) (0:Int)
noncomputable def sh2:R :=
  some ((.bool true),[])
noncomputable def sh3 (l0:List Df) (aA:Int) (fA:List Df) (gA:Int) (eA:Int) (k2:Y2) (k4:Y4):R :=
  condB (ilt eA gA) (chk (inb eA (List.length fA)) (chk (pos16 aA) (condB (!(rightB aA (List.getD fA (Int.toNat eA) d_df))) (some ((.bool false),[])) (condB (ilt (0:Int) eA) (chk (inb (IntKind.wrap .i64 (eA - (1:Int))) (List.length l0)) (condB (ile (0:Int) (compareZ (List.getD l0 (Int.toNat (IntKind.wrap .i64 (eA - (1:Int)))) d_df) (List.getD fA (Int.toNat eA) d_df))) (some ((.bool false),[])) (k4 l0 aA fA gA eA eA (ilt (0:Int) eA) true (ile (0:Int) (compareZ (List.getD l0 (Int.toNat (IntKind.wrap .i64 (eA - (1:Int)))) d_df) (List.getD fA (Int.toNat eA) d_df)))))) (k4 l0 aA fA gA eA eA (ilt (0:Int) eA) false false))))) (k2)
noncomputable def sh4 (l0:List Df) (aA:Int) (fA:List Df) (gA:Int) (eA:Int) (jA:Int) (hA:Bool) (iA:Bool) (lA:Bool) (k3:Y3):R :=
  k3 l0 aA fA gA (IntKind.wrap .i64 (eA+(1:Int)))
noncomputable def it3 (Kb2:Kont U El) (n:Nat):Kont U El:=iter nm3 (fun st' K'=>exec X (cdp [1,1,0,1,0,0] bd) (.seq none .d (.seq none .d (.seq (some nm4) .d .d))) st' K' (Eblk 0 (cutK nm2 Kb2) (fun _ _=>none)) RR) n
noncomputable def ct1:Kont U El:=fun st=>exec X (cdp [1,1] bd) (.seq (some nm2) (.seq none .d (.block (.loop nm3 (.seq none .d (.seq none .d (.seq (some nm4) .d .d)))))) .d) st RR (fun _ _=>none) RR
noncomputable def ct2:Kont U El:=fun st=>exec X (cdp [1,1,1] bd) .d st RR (fun _ _=>none) RR
noncomputable def ct4 (Kb2 Kb3:Kont U El):Kont U El:=fun st=>exec X (cdp [1,1,0,1,0,0,1,1,1] bd) .d st (cutK nm3 Kb3) (Eblk 0 (cutK nm2 Kb2) (fun _ _=>none)) RR
theorem P0 (l L):exec X (cdp [] bd) (.seq none .d (.seq (some nm1) .d (.seq (some nm2) (.seq none .d (.block (.loop nm3 (.seq none .d (.seq none .d (.seq (some nm4) .d .d)))))) .d))) (fr0 l L) RR (fun _ _=>none) RR=sh0 l L (fun y0 y1=>(hid ct1) (fr1 y0 y1)):=by kernel_rfl
theorem P1 (l0 aA):ct1 (fr1 l0 aA)=sh1 l0 aA (fun y0 y1 y2 y3 y4=>(hid (it3 (hid ct2) 100000)) (fr3 y0 y1 y2 y3 y4)):=by kernel_rfl
theorem P2:ct2 (fr2)=sh2:=by kernel_rfl
theorem P3 (l0 aA fA gA eA) (Kb2 Kb3:Kont U El):exec X (cdp [1,1,0,1,0,0] bd) (.seq none .d (.seq none .d (.seq (some nm4) .d .d))) (fr3 l0 aA fA gA eA) (cutK nm3 Kb3) (Eblk 0 (cutK nm2 Kb2) (fun _ _=>none)) RR=sh3 l0 aA fA gA eA (Kb2 (fr2)) (fun y0 y1 y2 y3 y4 y5 y6 y7 y8=>(hid (ct4 Kb2 Kb3)) (fr4 y0 y1 y2 y3 y4 y5 y6 y7 y8)):=by kernel_rfl
theorem P4 (l0 aA fA gA eA jA hA iA lA) (Kb2 Kb3:Kont U El):ct4 Kb2 Kb3 (fr4 l0 aA fA gA eA jA hA iA lA)=sh4 l0 aA fA gA eA jA hA iA lA (fun y0 y1 y2 y3 y4=>Kb3 (fr3 y0 y1 y2 y3 y4)):=by kernel_rfl
noncomputable def f2:R:=sh2
noncomputable def f4 (k3:Y3) (l0:List Df) (aA:Int) (fA:List Df) (gA:Int) (eA:Int) (jA:Int) (hA:Bool) (iA:Bool) (lA:Bool):R:=sh4 l0 aA fA gA eA jA hA iA lA k3
noncomputable def f3:Nat→Y3
  | 0=>fun _ _ _ _ _=>none
  | n+1=>fun l0 aA fA gA eA=>sh3 l0 aA fA gA eA f2 (f4 (f3 n))
noncomputable def f1 (l0:List Df) (aA:Int):R:=sh1 l0 aA (f3 100000)
noncomputable def f0 (l:List Df) (L:Int):R:=sh0 l L f1
theorem T2:(hid ct2) (fr2)=f2:=by
  refine (congrFun (hid_eq _) _).trans <| (P2).trans ?_
  show _=sh2
  rfl
theorem T4 (KL3:Kont U El) (k3:Y3) (h3:∀ l0 aA fA gA eA,KL3 (fr3 l0 aA fA gA eA)=k3 l0 aA fA gA eA) (l0 aA fA gA eA jA hA iA lA):(hid (ct4 (hid ct2) KL3)) (fr4 l0 aA fA gA eA jA hA iA lA)=f4 k3 l0 aA fA gA eA jA hA iA lA:=by
  refine (congrFun (hid_eq _) _).trans <| (P4 l0 aA fA gA eA jA hA iA lA (hid ct2) KL3).trans ?_
  show _=sh4 l0 aA fA gA eA jA hA iA lA k3
  simp only [h3]
theorem T3:∀ (n:Nat),∀ l0 aA fA gA eA,it3 (hid ct2) n (fr3 l0 aA fA gA eA)=f3 n l0 aA fA gA eA:=by
  intro n
  induction n with
  | zero=>intros; rfl
  | succ n ih =>
    intro l0 aA fA gA eA
    refine (P3 l0 aA fA gA eA (hid ct2) (it3 (hid ct2) n)).trans ?_
    show _=sh3 l0 aA fA gA eA f2 (f4 (f3 n))
    simp only [T2,T4 (it3 (hid ct2) n) (f3 n) ih]
theorem H3 (l0 aA fA gA eA):hid (it3 (hid ct2) 100000) (fr3 l0 aA fA gA eA)=f3 100000 l0 aA fA gA eA:=(congrFun (hid_eq _) _).trans (T3 100000 l0 aA fA gA eA)
theorem T1 (l0 aA):(hid ct1) (fr1 l0 aA)=f1 l0 aA:=by
  refine (congrFun (hid_eq _) _).trans <| (P1 l0 aA).trans ?_
  show _=sh1 l0 aA (f3 100000)
  simp only [H3]
theorem T0 (l L):exec X bd (.seq none .d (.seq (some nm1) .d (.seq (some nm2) (.seq none .d (.block (.loop nm3 (.seq none .d (.seq none .d (.seq (some nm4) .d .d)))))) .d))) (fr0 l L) RR (fun _ _=>none) RR=f0 l L:=by
  refine (P0 l L).trans ?_
  show _=sh0 l L f1
  simp only [T1]
theorem run (l L):runFn X bd (.seq none .d (.seq (some nm1) .d (.seq (some nm2) (.seq none .d (.block (.loop nm3 (.seq none .d (.seq none .d (.seq (some nm4) .d .d)))))) .d))) nmR [4] [] [(.lst .df l),(.int .i64 L)]=f0 l L:=T0 l L
theorem loop (l : List Df) (L : Int) (hL : pos16 L = true) (hl : l.length ≤ 1000) : ∀ (n i : Nat), l.length < n + i → i ≤ l.length → f3 n l L l (Int.ofNat l.length) (i : Int) = some (.bool (chainB L (prev l i) (l.drop i)), []) := by
  intro n
  induction n with
  | zero=>intro i h1 h2; omega
  | succ n ih =>
    intro i h1 h2
    unfold f3 sh3
    by_cases h:i < l.length
    · have ew : IntKind.wrap .i64 ((i : Int) + 1) = ((i + 1 : Nat) : Int) := by rw [wrapI (by omega) (by omega)]; omega
      have eg:List.getD l (Int.toNat (i:Int)) d_df=l[i]:=getD_lt h _
      rw [iltT (by simp; omega),inbT h,eg,drop_lt h]
      simp only [chainB,f4,sh4,ew,hL]
      cases hr:rightB L l[i]
      · rfl
      · rcases i with _ | j
        · rw [iltF (by omega)]
          exact (ih 1 (by omega) (by omega)).trans (by rw [prev_lt h]; rfl)
        · have hj : j < l.length := by omega
          have e1:IntKind.wrap .i64 (((j+1:Nat):Int) - 1)=(j:Int):=by rw [wrapI (by omega) (by omega)]; omega
          have eg2:List.getD l (Int.toNat (j:Int)) d_df=l[j]:=getD_lt hj _
          rw [iltT (by omega),e1,inbT hj,eg2,before_compare,prev_lt hj,befO_some]
          cases hb:beforeB l[j] l[j+1]
          · rfl
          · exact (ih (j+1+1) (by omega) (by omega)).trans (by rw [prev_lt h]; rfl)
    · have : i = l.length := by omega
      subst this
      rw [iltF (by simp),List.drop_length]
      rfl
theorem f0_eq (l:List Df) (L:Int):f0 l L=some (.bool (validB L l),[]):=by
  unfold f0 sh0 validB
  by_cases h1:L < 1
  · rw [iltT h1,show pos16 L=false by simp [pos16,ile]; omega]; rfl
  rw [iltF h1]
  by_cases h2:16777216 < L
  · rw [iltT h2,show pos16 L=false by simp [pos16,ile]; omega]; rfl
  have hp:pos16 L=true:=pos16_iff.2 ⟨by omega,by omega⟩
  rw [iltF h2,hp]
  by_cases h3:1000 < l.length
  · rw [iltT (by simp; omega),show nle l.length 1000=false from decide_eq_false (by omega)]; rfl
  rw [iltF (by simp; omega),nleT (by omega)]
  exact loop l L hp (by omega) 100000 0 (by omega) (by omega)
theorem ok:CtxOk Tryz.prog X:=ctxOk tab (spC right.spOk (spC compare.spOk spN)) dpN
theorem okM:MOk Tryz.prog X:=fun g sp h=>by cases h
theorem spec (l:List Df) (L:Int):CallSpec Tryz.prog E 10 [(.lst .df l),(.int .i64 L)] (.bool (validB L l)) [] :=
  runFn_sound ok okM Tryz.call10 Tryz.func10 (by kernel_rfl) (by kernel_rfl) (by kernel_rfl) (by show 2≤44; decide) (by decide) (by rfl) ((run l L).trans (f0_eq l L))
noncomputable def sp:Sp U El:=fun args k=>match args with
  | [.lst .df l,.int .i64 L]=>k (.bool (validB L l)) []
  | _=>none
theorem spOk:SpOk Tryz.prog E 10 sp where
  det:=fun vs=>by
    unfold sp
    split
    · exact ⟨some (_,_),fun _=>rfl⟩
    · exact ⟨none,fun _=>rfl⟩
  ok:=fun vs k r h=>by
    unfold sp at h
    split at h
    · exact ⟨_,_,spec _ _,h⟩
    · cases h
end valid
end Go.Proofs.YtnhmhcobpbilhaaGreatDoor
