/- few: at most 60 defects, short codes. -/
import Derived.Test.YtnhmhcobpbilhaaGreatDoorVD
namespace Go.Proofs.YtnhmhcobpbilhaaGreatDoor
variable [Drw]
set_option linter.unusedSectionVars false
set_option linter.unusedSimpArgs false
set_option linter.unusedVariables false
set_option maxRecDepth 100000
noncomputable def ixf:Int→List Df→Int
  | _,[] => -1
  | i,d :: l=>bif ilt 50 (Int.ofNat (List.length d.c)) then i else ixf (i+1) l
noncomputable def indexFewZ (l:List Df):Int:=ixf 0 l
noncomputable def fewB (l:List Df):Bool :=
  bif (ilt 60 (Int.ofNat l.length)&&ile (Int.ofNat l.length) 1000)||ilt 1005 (Int.ofNat l.length) then false else !(ile 0 (indexFewZ l))
noncomputable def exampleL:List Df:=[⟨[67,82],1000,2500,3⟩,⟨[66,82],7000,0,4⟩]
namespace few1
noncomputable def bd:Code:=(Tryz.f20.body).getD .skip
noncomputable def X:Ctx U El:=⟨E,tds,zeros,eqs,specOf [],100000,7,dspecOf [],fun _=>none⟩
noncomputable def nmR:Norm U:=⟨[],[2],[],[],[],[],[]⟩
noncomputable def RR:Kont U El:=fun st=>normK nmR st (retFin [2] [])
noncomputable def fr0 (d:Df):St U El:=⟨[(0,(.agg [(.str d.c),(.int .i64 d.a),(.int .i64 d.l),(.int .i64 d.s)]))],[]⟩
noncomputable def sh0 (d:Df):R :=
  some ((.bool (ilt (50:Int) (Int.ofNat (List.length d.c)))),[])
theorem P0 (d):exec X (cdp [] bd) .d (fr0 d) RR (fun _ _=>none) RR=sh0 d:=by kernel_rfl
noncomputable def f0 (d:Df):R:=sh0 d
theorem T0 (d):exec X bd .d (fr0 d) RR (fun _ _=>none) RR=f0 d:=by
  refine (P0 d).trans ?_
  show _=sh0 d
  rfl
theorem run (d):runFn X bd .d nmR [2] [] [(.agg [(.str d.c),(.int .i64 d.a),(.int .i64 d.l),(.int .i64 d.s)])]=f0 d:=T0 d
theorem f0_eq (d:Df):f0 d=some (.bool (ilt 50 (Int.ofNat (List.length d.c))),[]):=rfl
theorem ok:CtxOk Tryz.prog X:=ctxOk tab spN dpN
theorem okM:MOk Tryz.prog X:=fun g sp h=>by cases h
theorem spec (d:Df):CallSpec Tryz.prog E 20 [(.agg [(.str d.c),(.int .i64 d.a),(.int .i64 d.l),(.int .i64 d.s)])] (.bool (ilt 50 (Int.ofNat (List.length (Df.c d))))) [] :=
  runFn_sound ok okM Tryz.call20 Tryz.func20 (by kernel_rfl) (by kernel_rfl) (by kernel_rfl) (by show 1≤7; decide) (by decide) (by rfl) ((run d).trans (f0_eq d))
noncomputable def sp:Sp U El:=fun args k=>match args with
  | [.agg [.str d_c,.int .i64 d_a,.int .i64 d_l,.int .i64 d_s]]=>k (.bool (ilt 50 (Int.ofNat (List.length (Df.c (⟨d_c,d_a,d_l,d_s⟩:Df)))))) []
  | _=>none
theorem spOk:SpOk Tryz.prog E 20 sp where
  det:=fun vs=>by
    unfold sp
    split
    · exact ⟨some (_,_),fun _=>rfl⟩
    · exact ⟨none,fun _=>rfl⟩
  ok:=fun vs k r h=>by
    unfold sp at h
    split at h
    · exact ⟨_,_,spec ⟨_,_,_,_⟩,h⟩
    · cases h
end few1
namespace indexFew
noncomputable def bd:Code:=(Tryz.f38.body).getD .skip
noncomputable def X:Ctx U El:=⟨E,tds,zeros,eqs,specOf [(20,few1.sp)],100000,19,dspecOf [],fun _=>none⟩
noncomputable def nmR:Norm U:=⟨[],[4],[],[],[],[],[]⟩
noncomputable def RR:Kont U El:=fun st=>normK nmR st (retFin [4] [])
noncomputable def nm1:Norm U:=⟨[],[],[],[],[],[],[]⟩
noncomputable def nm2:Norm U:=⟨[],[0,1,7,8],[],[],[],[],[]⟩
abbrev Y1:=R
abbrev Y2:=(List Df)→Int→Int→R
noncomputable def fr0 (l:List Df):St U El:=⟨[(0,(.lst .df l)),(1,(.fn 20 [] []))],[]⟩
noncomputable def fr1:St U El:=⟨[],[]⟩
noncomputable def fr2 (s0:List Df) (x7:Int) (x8:Int):St U El:=⟨[(0,(.lst .df s0)),(1,(.fn 20 [] [])),(7,(.int .i64 x7)),(8,(.int .i64 x8))],[]⟩
noncomputable def sh0 (l:List Df) (k2:Y2):R :=
  k2 l (Int.ofNat (List.length l)) (0:Int)
noncomputable def sh1:R :=
  some ((.int .i64 (-1:Int)),[])
noncomputable def sh2 (s0:List Df) (x7:Int) (x8:Int) (k1:Y1) (k2:Y2):R :=
  condB (ilt x8 x7) (chk (inb x8 (List.length s0)) (condB (ilt 50 (Int.ofNat (List.length (Df.c (List.getD s0 (Int.toNat x8) d_df))))) (some ((.int .i64 x8),[])) (k2 s0 x7 (IntKind.wrap .i64 (x8+(1:Int)))))) (k1)
noncomputable def it2 (Kb1:Kont U El) (n:Nat):Kont U El:=iter nm2 (fun st' K'=>exec X (cdp [1,0,1,0,0] bd) .d st' K' (Eblk 0 (cutK nm1 Kb1) (fun _ _=>none)) RR) n
noncomputable def ct1:Kont U El:=fun st=>exec X (cdp [1,1] bd) .d st RR (fun _ _=>none) RR
theorem P0 (l):exec X (cdp [] bd) (.seq none .d (.seq (some nm1) (.seq none .d (.block (.loop nm2 .d))) .d)) (fr0 l) RR (fun _ _=>none) RR=sh0 l (fun y0 y1 y2=>(hid (it2 (hid ct1) 100000)) (fr2 y0 y1 y2)):=by kernel_rfl
theorem P1:ct1 (fr1)=sh1:=by kernel_rfl
theorem P2 (s0 x7 x8) (Kb1 Kb2:Kont U El):exec X (cdp [1,0,1,0,0] bd) .d (fr2 s0 x7 x8) (cutK nm2 Kb2) (Eblk 0 (cutK nm1 Kb1) (fun _ _=>none)) RR=sh2 s0 x7 x8 (Kb1 (fr1)) (fun y0 y1 y2=>Kb2 (fr2 y0 y1 y2)):=by kernel_rfl
noncomputable def f1:R:=sh1
noncomputable def f2:Nat→Y2
  | 0=>fun _ _ _=>none
  | n+1=>fun s0 x7 x8=>sh2 s0 x7 x8 f1 (f2 n)
noncomputable def f0 (l:List Df):R:=sh0 l (f2 100000)
theorem T1:(hid ct1) (fr1)=f1:=by
  refine (congrFun (hid_eq _) _).trans <| (P1).trans ?_
  show _=sh1
  rfl
theorem T2:∀ (n:Nat),∀ s0 x7 x8,it2 (hid ct1) n (fr2 s0 x7 x8)=f2 n s0 x7 x8:=by
  intro n
  induction n with
  | zero=>intros; rfl
  | succ n ih =>
    intro s0 x7 x8
    refine (P2 s0 x7 x8 (hid ct1) (it2 (hid ct1) n)).trans ?_
    show _=sh2 s0 x7 x8 f1 (f2 n)
    simp only [T1,ih]
theorem H2 (s0 x7 x8):hid (it2 (hid ct1) 100000) (fr2 s0 x7 x8)=f2 100000 s0 x7 x8:=(congrFun (hid_eq _) _).trans (T2 100000 s0 x7 x8)
theorem T0 (l):exec X bd (.seq none .d (.seq (some nm1) (.seq none .d (.block (.loop nm2 .d))) .d)) (fr0 l) RR (fun _ _=>none) RR=f0 l:=by
  refine (P0 l).trans ?_
  show _=sh0 l (f2 100000)
  simp only [H2]
theorem run (l):runFn X bd (.seq none .d (.seq (some nm1) (.seq none .d (.block (.loop nm2 .d))) .d)) nmR [4] [] [(.lst .df l),(.fn 20 [] [])]=f0 l:=T0 l
theorem loop (l:List Df) (hl:l.length≤1005):∀ (n i:Nat),l.length < n+i→i≤l.length→f2 n l (Int.ofNat l.length) (i:Int)=some (.int .i64 (ixf i (l.drop i)),[]):=by
  intro n
  induction n with
  | zero=>intro i h1 h2; omega
  | succ n ih =>
    intro i h1 h2
    show sh2 l (Int.ofNat l.length) i f1 (f2 n)=_
    unfold sh2
    by_cases hi:i < l.length
    · rw [iltT (by simp; omega), inbT hi, toNat_nat, getD_lt hi, drop_lt hi, wrapS i (by omega)]
      simp only [ixf]
      cases ilt 50 (Int.ofNat (List.length l[i].c))
      · exact ih (i+1) (by omega) (by omega)
      · rfl
    · have : i = l.length := by omega
      subst this
      rw [iltF (by simp),List.drop_length]
      rfl
theorem f0_eq (l:List Df) (h:nle (List.length l) 1005=true):f0 l=some (.int .i64 (indexFewZ l),[]):=by
  have hl:l.length≤1005:=of_decide_eq_true h
  exact loop l hl 100000 0 (by omega) (by omega)
theorem ok:CtxOk Tryz.prog X:=ctxOk tab (spC few1.spOk spN) dpN
theorem okM:MOk Tryz.prog X:=fun g sp h=>by cases h
theorem spec (l:List Df) (h:(nle (List.length l) 1005)=true):CallSpec Tryz.prog E 38 [(.lst .df l),(.fn 20 [] [])] (.int .i64 (indexFewZ l)) [] :=
  runFn_sound ok okM Tryz.call38 Tryz.func38 (by kernel_rfl) (by kernel_rfl) (by kernel_rfl) (by show 2≤19; decide) (by decide) (by rfl) ((run l).trans (f0_eq l h))
noncomputable def sp:Sp U El:=fun args k=>match args with
  | [.lst .df l,.fn 20 [] []]=>chk (nle (List.length l) 1005) (k (.int .i64 (indexFewZ l)) [])
  | _=>none
theorem spOk:SpOk Tryz.prog E 38 sp where
  det:=fun vs=>by
    unfold sp
    split
    · exact det_c _ _ _
    · exact ⟨none,fun _=>rfl⟩
  ok:=fun vs k r h=>by
    unfold sp at h
    split at h
    · obtain ⟨h1, h2⟩ := chk_some h
      exact ⟨_,_,spec _ h1,h2⟩
    · cases h
end indexFew
namespace containsFew
noncomputable def bd:Code:=(Tryz.f19.body).getD .skip
noncomputable def X:Ctx U El:=⟨E,tds,zeros,eqs,specOf [(38,indexFew.sp)],100000,9,dspecOf [],fun _=>none⟩
noncomputable def nmR:Norm U:=⟨[],[4],[],[],[],[],[]⟩
noncomputable def RR:Kont U El:=fun st=>normK nmR st (retFin [4] [])
noncomputable def fr0 (l:List Df):St U El:=⟨[(0,(.lst .df l)),(1,(.fn 20 [] []))],[]⟩
noncomputable def sh0 (l:List Df):R :=
  chk (nle (List.length l) 1005) (some ((.bool (ile (0:Int) (indexFewZ l))),[]))
theorem P0 (l):exec X (cdp [] bd) .d (fr0 l) RR (fun _ _=>none) RR=sh0 l:=by kernel_rfl
noncomputable def f0 (l:List Df):R:=sh0 l
theorem T0 (l):exec X bd .d (fr0 l) RR (fun _ _=>none) RR=f0 l:=by
  refine (P0 l).trans ?_
  show _=sh0 l
  rfl
theorem run (l):runFn X bd .d nmR [4] [] [(.lst .df l),(.fn 20 [] [])]=f0 l:=T0 l
theorem f0_eq (l:List Df) (h:nle (List.length l) 1005=true):f0 l=some (.bool (ile 0 (indexFewZ l)),[]):=by
  unfold f0 sh0
  rw [h]; rfl
theorem ok:CtxOk Tryz.prog X:=ctxOk tab (spC indexFew.spOk spN) dpN
theorem okM:MOk Tryz.prog X:=fun g sp h=>by cases h
theorem spec (l:List Df) (h:(nle (List.length l) 1005)=true):CallSpec Tryz.prog E 19 [(.lst .df l),(.fn 20 [] [])] (.bool (ile 0 (indexFewZ l))) [] :=
  runFn_sound ok okM Tryz.call19 Tryz.func19 (by kernel_rfl) (by kernel_rfl) (by kernel_rfl) (by show 2≤9; decide) (by decide) (by rfl) ((run l).trans (f0_eq l h))
noncomputable def sp:Sp U El:=fun args k=>match args with
  | [.lst .df l,.fn 20 [] []]=>chk (nle (List.length l) 1005) (k (.bool (ile 0 (indexFewZ l))) [])
  | _=>none
theorem spOk:SpOk Tryz.prog E 19 sp where
  det:=fun vs=>by
    unfold sp
    split
    · exact det_c _ _ _
    · exact ⟨none,fun _=>rfl⟩
  ok:=fun vs k r h=>by
    unfold sp at h
    split at h
    · obtain ⟨h1, h2⟩ := chk_some h
      exact ⟨_,_,spec _ h1,h2⟩
    · cases h
end containsFew
namespace few
noncomputable def bd:Code:=(Tryz.f6.body).getD .skip
noncomputable def X:Ctx U El:=⟨E,tds,zeros,eqs,specOf [(19,containsFew.sp)],100000,19,dspecOf [],fun _=>none⟩
noncomputable def nmR:Norm U:=⟨[],[2],[],[],[],[],[]⟩
noncomputable def RR:Kont U El:=fun st=>normK nmR st (retFin [2] [])
noncomputable def nm1:Norm U:=⟨[],[0],[],[],[],[],[]⟩
abbrev Y1:=(List Df)→R
noncomputable def fr0 (l:List Df):St U El:=⟨[(0,(.lst .df l))],[]⟩
noncomputable def fr1 (l0:List Df):St U El:=⟨[(0,(.lst .df l0))],[]⟩
noncomputable def sh0 (l:List Df) (k1:Y1):R :=
  condB (ilt (60:Int) (Int.ofNat (List.length l))) (condB (ile (Int.ofNat (List.length l)) (1000:Int)) (some ((.bool false),[])) (condB (ilt (1005:Int) (Int.ofNat (List.length l))) (some ((.bool false),[])) (k1 l))) (condB (ilt (1005:Int) (Int.ofNat (List.length l))) (some ((.bool false),[])) (k1 l))
noncomputable def sh1 (l0:List Df):R :=
  chk (nle (List.length l0) 1005) (some ((.bool (!(ile 0 (indexFewZ l0)))),[]))
noncomputable def ct1:Kont U El:=fun st=>exec X (cdp [1,1] bd) .d st RR (fun _ _=>none) RR
theorem P0 (l):exec X (cdp [] bd) (.seq none .d (.seq (some nm1) .d .d)) (fr0 l) RR (fun _ _=>none) RR=sh0 l (fun y0=>(hid ct1) (fr1 y0)):=by kernel_rfl
theorem P1 (l0):ct1 (fr1 l0)=sh1 l0:=by kernel_rfl
noncomputable def f1 (l0:List Df):R:=sh1 l0
noncomputable def f0 (l:List Df):R:=sh0 l f1
theorem T1 (l0):(hid ct1) (fr1 l0)=f1 l0:=by
  refine (congrFun (hid_eq _) _).trans <| (P1 l0).trans ?_
  show _=sh1 l0
  rfl
theorem T0 (l):exec X bd (.seq none .d (.seq (some nm1) .d .d)) (fr0 l) RR (fun _ _=>none) RR=f0 l:=by
  refine (P0 l).trans ?_
  show _=sh0 l f1
  simp only [T1]
theorem run (l):runFn X bd (.seq none .d (.seq (some nm1) .d .d)) nmR [2] [] [(.lst .df l)]=f0 l:=T0 l
theorem f0_eq (l:List Df):f0 l=some (.bool (fewB l),[]):=by
  unfold f0 sh0 f1 sh1 fewB
  cases h1:ilt 60 (Int.ofNat l.length)
  · cases h2 : ilt 1005 (Int.ofNat l.length)
    · rw [show nle l.length 1005=true from nleT (by have:=iltN h2; simp at this; omega)]; rfl
    · rfl
  · cases h3 : ile (Int.ofNat l.length) 1000
    · cases h2 : ilt 1005 (Int.ofNat l.length)
      · rw [show nle l.length 1005=true from nleT (by have:=iltN h2; simp at this; omega)]; rfl
      · rfl
    · rfl
theorem ok:CtxOk Tryz.prog X:=ctxOk tab (spC containsFew.spOk spN) dpN
theorem okM:MOk Tryz.prog X:=fun g sp h=>by cases h
theorem spec (l:List Df):CallSpec Tryz.prog E 6 [(.lst .df l)] (.bool (fewB l)) [] :=
  runFn_sound ok okM Tryz.call6 Tryz.func6 (by kernel_rfl) (by kernel_rfl) (by kernel_rfl) (by show 1≤19; decide) (by decide) (by rfl) ((run l).trans (f0_eq l))
noncomputable def sp:Sp U El:=fun args k=>match args with
  | [.lst .df l]=>k (.bool (fewB l)) []
  | _=>none
theorem spOk:SpOk Tryz.prog E 6 sp where
  det:=fun vs=>by
    unfold sp
    split
    · exact ⟨some (_,_),fun _=>rfl⟩
    · exact ⟨none,fun _=>rfl⟩
  ok:=fun vs k r h=>by
    unfold sp at h
    split at h
    · exact ⟨_,_,spec _,h⟩
    · cases h
end few
namespace exampleF
noncomputable def bd:Code:=(Tryz.f17.body).getD .skip
noncomputable def X:Ctx U El:=⟨E,tds,zeros,eqs,specOf [],100000,4,dspecOf [],fun _=>none⟩
noncomputable def nmR:Norm U:=⟨[(0,.df)],[0],[0],[],[],[],[]⟩
noncomputable def RR:Kont U El:=fun st=>normK nmR st (retFin [0] [0])
noncomputable def fr0:St U El:=⟨[],[]⟩
noncomputable def sh0:R :=
  some ((.ful 0),[(0,.rows .df ([(⟨([67,82]:List UInt8),(1000:Int),(2500:Int),(3:Int)⟩:Df),(⟨([66,82]:List UInt8),(7000:Int),(0:Int),(4:Int)⟩:Df)]:List Df))])
theorem P0:exec X (cdp [] bd) .d (fr0) RR (fun _ _=>none) RR=sh0:=by kernel_rfl
noncomputable def f0:R:=sh0
theorem T0:exec X bd .d (fr0) RR (fun _ _=>none) RR=f0:=by
  refine (P0).trans ?_
  show _=sh0
  rfl
theorem run:runFn X bd .d nmR [0] [0] []=f0:=T0
theorem f0_eq:f0=some (.ful 0,[(0,.rows .df exampleL)]):=rfl
theorem ok:CtxOk Tryz.prog X:=ctxOk tab spN dpN
theorem okM:MOk Tryz.prog X:=fun g sp h=>by cases h
theorem spec:CallSpec Tryz.prog E 17 [] (.ful 0) [(0,.rows .df (exampleL))] :=
  runFn_sound ok okM Tryz.call17 Tryz.func17 (by kernel_rfl) (by kernel_rfl) (by kernel_rfl) (by show 0≤4; decide) (by decide) (by rfl) ((run).trans (f0_eq))
noncomputable def sp:Sp U El:=fun args k=>match args with
  | []=>k (.ful 0) [(0,.rows .df (exampleL))]
  | _=>none
theorem spOk:SpOk Tryz.prog E 17 sp where
  det:=fun vs=>by
    unfold sp
    split
    · exact ⟨some (_,_),fun _=>rfl⟩
    · exact ⟨none,fun _=>rfl⟩
  ok:=fun vs k r h=>by
    unfold sp at h
    split at h
    · exact ⟨_,_,spec,h⟩
    · cases h
end exampleF
end Go.Proofs.YtnhmhcobpbilhaaGreatDoor
