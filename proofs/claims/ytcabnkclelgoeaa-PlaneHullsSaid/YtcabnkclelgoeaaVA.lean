/- Points: validity, turns, orders; the code's and the document's small functions. -/
import Derived.Test.YtcabnkclelgoeaaHL
namespace Go.Proofs.Ytcabnkclelgoeaa
set_option linter.unusedSectionVars false
set_option linter.unusedSimpArgs false
set_option linter.unusedVariables false
set_option maxRecDepth 100000
noncomputable def outB (b:Bool):R:=some (.bool b,[])
noncomputable def outI (z:Int):R:=some (.int .i64 z,[])
noncomputable def out2 (z e:Int):R:=some (.tup [.int .i64 z,.int .i64 e],[])
noncomputable def vB (a:Pt):Bool:=ile (-16777216) a.px&&(ile a.px 16777216&&(ile (-16777216) a.py&&ile a.py 16777216))
noncomputable def nvB (a:Pt):Bool := !(vB a)
noncomputable def allB (l:List Pt):Bool := !(List.any l nvB)
theorem vB_iff {a:Pt}:vB a=true↔(-16777216≤a.px∧a.px≤16777216)∧(-16777216≤a.py∧a.py≤16777216):=by
  simp only [vB,ile,Bool.and_eq_true,decide_eq_true_eq]
  constructor<;>intro h<;>omega
theorem allB_iff {l:List Pt}:allB l=true↔∀ a∈l,vB a=true:=by
  simp [allB,nvB]
namespace valid
noncomputable def bd:Code:=(Try.f17.body).getD .skip
noncomputable def X:Ctx U El:=⟨E,tds,zeros,eqs,specOf [],100000,21,dspecOf [],fun _=>none⟩
noncomputable def nmR:Norm U:=⟨[],[2],[],[],[],[],[]⟩
noncomputable def RR:Kont U El:=fun st=>normK nmR st (retFin [2] [])
noncomputable def fr0 (a:Pt):St U El:=⟨[(0,(.agg [(.int .i64 a.px),(.int .i64 a.py)]))],[]⟩
noncomputable def sh0 (a:Pt):R :=
  condB (ile (-16777216:Int) a.px) (condB (ile a.px (16777216:Int)) (condB (ile (-16777216:Int) a.py) (some ((.bool (ile a.py (16777216:Int))),[])) (some ((.bool false),[]))) (some ((.bool false),[]))) (some ((.bool false),[]))
theorem P0 (a):exec X (cdp [] bd) .d (fr0 a) RR (fun _ _=>none) RR=sh0 a:=by kernel_rfl
noncomputable def f0 (a:Pt):R:=sh0 a
theorem T0 (a):exec X bd .d (fr0 a) RR (fun _ _=>none) RR=f0 a:=by
  refine (P0 a).trans ?_
  show _=sh0 a
  rfl
theorem run (a):runFn X bd .d nmR [2] [] [(.agg [(.int .i64 a.px),(.int .i64 a.py)])]=f0 a:=T0 a
theorem f0_eq (a:Pt):f0 a=outB (vB a):=by
  show sh0 a=_
  unfold sh0 vB
  cases ile (-16777216) a.px<;>cases ile a.px 16777216<;>cases ile (-16777216) a.py<;>rfl
theorem ok:CtxOk Try.prog X:=ctxOk tab spN dpN
theorem okM:MOk Try.prog X:=fun g sp h=>by cases h
theorem spec (a:Pt):CallSpec Try.prog E 17 [(.agg [(.int .i64 a.px),(.int .i64 a.py)])] (.bool (vB a)) [] :=
  runFn_sound ok okM Try.call17 Try.func17 (by kernel_rfl) (by kernel_rfl) (by kernel_rfl) (by show 1≤21; decide) (by decide) (by rfl) ((run a).trans (f0_eq a))
noncomputable def sp:Sp U El:=fun args k=>match args with
  | [.agg [.int .i64 a_px,.int .i64 a_py]]=>k (.bool (vB (⟨a_px,a_py⟩:Pt))) []
  | _=>none
theorem spOk:SpOk Try.prog E 17 sp where
  det:=fun vs=>by
    unfold sp
    split
    · exact ⟨some (_,_),fun _=>rfl⟩
    · exact ⟨none,fun _=>rfl⟩
  ok:=fun vs k r h=>by
    unfold sp at h
    split at h
    · exact ⟨_,_,spec ⟨_,_⟩,h⟩
    · cases h
end valid
namespace al1
noncomputable def bd:Code:=(Try.f61.body).getD .skip
noncomputable def X:Ctx U El:=⟨E,tds,zeros,eqs,specOf [(17,valid.sp)],100000,6,dspecOf [],fun _=>none⟩
noncomputable def nmR:Norm U:=⟨[],[2],[],[],[],[],[]⟩
noncomputable def RR:Kont U El:=fun st=>normK nmR st (retFin [2] [])
noncomputable def fr0 (x:Pt):St U El:=⟨[(0,(.agg [(.int .i64 x.px),(.int .i64 x.py)]))],[]⟩
noncomputable def sh0 (x:Pt):R :=
  some ((.bool (!(vB x))),[])
theorem P0 (x):exec X (cdp [] bd) .d (fr0 x) RR (fun _ _=>none) RR=sh0 x:=by kernel_rfl
noncomputable def f0 (x:Pt):R:=sh0 x
theorem T0 (x):exec X bd .d (fr0 x) RR (fun _ _=>none) RR=f0 x:=by
  refine (P0 x).trans ?_
  show _=sh0 x
  rfl
theorem run (x):runFn X bd .d nmR [2] [] [(.agg [(.int .i64 x.px),(.int .i64 x.py)])]=f0 x:=T0 x
theorem f0_eq (x:Pt):f0 x=outB (nvB x):=rfl
theorem ok:CtxOk Try.prog X:=ctxOk tab (spC valid.spOk spN) dpN
theorem okM:MOk Try.prog X:=fun g sp h=>by cases h
theorem spec (x:Pt):CallSpec Try.prog E 61 [(.agg [(.int .i64 x.px),(.int .i64 x.py)])] (.bool (nvB x)) [] :=
  runFn_sound ok okM Try.call61 Try.func61 (by kernel_rfl) (by kernel_rfl) (by kernel_rfl) (by show 1≤6; decide) (by decide) (by rfl) ((run x).trans (f0_eq x))
noncomputable def sp:Sp U El:=fun args k=>match args with
  | [.agg [.int .i64 x_px,.int .i64 x_py]]=>k (.bool (nvB (⟨x_px,x_py⟩:Pt))) []
  | _=>none
theorem spOk:SpOk Try.prog E 61 sp where
  det:=fun vs=>by
    unfold sp
    split
    · exact ⟨some (_,_),fun _=>rfl⟩
    · exact ⟨none,fun _=>rfl⟩
  ok:=fun vs k r h=>by
    unfold sp at h
    split at h
    · exact ⟨_,_,spec ⟨_,_⟩,h⟩
    · cases h
end al1
namespace al1X
noncomputable def bd:Code:=(Try.f59.body).getD .skip
noncomputable def X:Ctx U El:=⟨E,tds,zeros,eqs,specOf [(61,al1.sp)],100000,19,dspecOf [],fun _=>none⟩
noncomputable def nmR:Norm U:=⟨[],[4],[],[],[],[],[]⟩
noncomputable def RR:Kont U El:=fun st=>normK nmR st (retFin [4] [])
noncomputable def nm1:Norm U:=⟨[],[],[],[],[],[],[]⟩
noncomputable def nm2:Norm U:=⟨[],[0,1,7,8],[],[],[],[],[]⟩
abbrev Y1:=R
abbrev Y2:=(List Pt)→Int→Int→R
noncomputable def fr0 (l:List Pt):St U El:=⟨[(0,(.lst .pt l)),(1,(.fn 61 [] []))],[]⟩
noncomputable def fr1:St U El:=⟨[],[]⟩
noncomputable def fr2 (s0:List Pt) (x7:Int) (x8:Int):St U El:=⟨[(0,(.lst .pt s0)),(1,(.fn 61 [] [])),(7,(.int .i64 x7)),(8,(.int .i64 x8))],[]⟩
noncomputable def sh0 (l:List Pt) (k2:Y2):R :=
  k2 l (Int.ofNat (List.length l)) (0:Int)
noncomputable def sh1:R :=
  some ((.int .i64 (-1:Int)),[])
noncomputable def sh2 (s0:List Pt) (x7:Int) (x8:Int) (k1:Y1) (k2:Y2):R :=
  condB (ilt x8 x7) (chk (inb x8 (List.length s0)) (condB (nvB (List.getD s0 (Int.toNat x8) d_pt)) (some ((.int .i64 x8),[])) (k2 s0 x7 (IntKind.wrap .i64 (x8+(1:Int)))))) (k1)
noncomputable def it2 (Kb1:Kont U El) (n:Nat):Kont U El:=iter nm2 (fun st' K'=>exec X (cdp [1,0,1,0,0] bd) .d st' K' (Eblk 0 (cutK nm1 Kb1) (fun _ _=>none)) RR) n
noncomputable def ct1:Kont U El:=fun st=>exec X (cdp [1,1] bd) .d st RR (fun _ _=>none) RR
theorem P0 (l):exec X (cdp [] bd) (.seq none .d (.seq (some nm1) (.seq none .d (.block (.loop nm2 .d))) .d)) (fr0 l) RR (fun _ _=>none) RR=sh0 l (fun y0 y1 y2=>(hid (it2 (hid ct1) 100000)) (fr2 y0 y1 y2)):=by kernel_rfl
theorem P1:ct1 (fr1)=sh1:=by kernel_rfl
theorem P2 (s0 x7 x8) (Kb1 Kb2:Kont U El):exec X (cdp [1,0,1,0,0] bd) .d (fr2 s0 x7 x8) (cutK nm2 Kb2) (Eblk 0 (cutK nm1 Kb1) (fun _ _=>none)) RR=sh2 s0 x7 x8 (Kb1 (fr1)) (fun y0 y1 y2=>Kb2 (fr2 y0 y1 y2)):=by kernel_rfl
noncomputable def f1:R:=sh1
noncomputable def f2:Nat→Y2
  | 0=>fun _ _ _=>none
  | n+1=>fun s0 x7 x8=>sh2 s0 x7 x8 f1 (f2 n)
noncomputable def f0 (l:List Pt):R:=sh0 l (f2 100000)
theorem T1:(hid ct1) (fr1)=f1:=by
  refine (congrFun (hid_eq _) _).trans <| (P1).trans ?_
  show _=sh1
  rfl
theorem T2:∀ (n:Nat),∀ s0 x7 x8,it2 (hid ct1) n (fr2 s0 x7 x8)=f2 n s0 x7 x8:=by
  intro n
  induction n with
  | zero=>intros; rfl
  | succ n ih =>
    intro s0 x7 x8
    refine (P2 s0 x7 x8 (hid ct1) (it2 (hid ct1) n)).trans ?_
    show _=sh2 s0 x7 x8 f1 (f2 n)
    simp only [T1,ih]
theorem H2 (s0 x7 x8):hid (it2 (hid ct1) 100000) (fr2 s0 x7 x8)=f2 100000 s0 x7 x8:=(congrFun (hid_eq _) _).trans (T2 100000 s0 x7 x8)
theorem T0 (l):exec X bd (.seq none .d (.seq (some nm1) (.seq none .d (.block (.loop nm2 .d))) .d)) (fr0 l) RR (fun _ _=>none) RR=f0 l:=by
  refine (P0 l).trans ?_
  show _=sh0 l (f2 100000)
  simp only [H2]
theorem run (l):runFn X bd (.seq none .d (.seq (some nm1) (.seq none .d (.block (.loop nm2 .d))) .d)) nmR [4] [] [(.lst .pt l),(.fn 61 [] [])]=f0 l:=T0 l
theorem f0_eq (l:List Pt) (h:(nle (List.length l) 90000)=true):f0 l=outI (findZ nvB 0 l):=by
  have hl:=nleI h
  refine (grun_eq l (by omega) (fun n_ (_:Unit) i_=>f2 n_ l (Int.ofNat l.length) i_) _ (fun _=>outI (-1)) (fun n_ u_ i_ hi_ => ?_) (fun n_ u_ => ?_) 100000 0 () (by omega) (by omega)).trans (grun_find nvB outI l 0)
  · show sh2 l (Int.ofNat l.length) i_ f1 (f2 n_) = _
    unfold sh2
    rw [iltT (by simp; omega),inbT hi_,toNat_nat,getD_lt hi_]
    rfl
  · show sh2 l (Int.ofNat l.length) (l.length : Int) f1 (f2 n_) = _
    unfold sh2
    rw [iltF (by simp)]
    rfl
theorem ok:CtxOk Try.prog X:=ctxOk tab (spC al1.spOk spN) dpN
theorem okM:MOk Try.prog X:=fun g sp h=>by cases h
theorem spec (l:List Pt) (h:(nle (List.length l) 90000)=true):CallSpec Try.prog E 59 [(.lst .pt l),(.fn 61 [] [])] (.int .i64 (findZ nvB 0 l)) [] :=
  runFn_sound ok okM Try.call59 Try.func59 (by kernel_rfl) (by kernel_rfl) (by kernel_rfl) (by show 2≤19; decide) (by decide) (by rfl) ((run l).trans (f0_eq l h))
noncomputable def sp:Sp U El:=fun args k=>match args with
  | [.lst .pt l,.fn 61 [] []]=>chk (nle (List.length l) 90000) (k (.int .i64 (findZ nvB 0 l)) [])
  | _=>none
theorem spOk:SpOk Try.prog E 59 sp where
  det:=fun vs=>by
    unfold sp
    split
    · exact det_c _ _ _
    · exact ⟨none,fun _=>rfl⟩
  ok:=fun vs k r h=>by
    unfold sp at h
    split at h
    · obtain ⟨h1, h2⟩ := chk_some h
      exact ⟨_,_,spec _ h1,h2⟩
    · cases h
end al1X
namespace al1C
noncomputable def bd:Code:=(Try.f35.body).getD .skip
noncomputable def X:Ctx U El:=⟨E,tds,zeros,eqs,specOf [(59,al1X.sp)],100000,9,dspecOf [],fun _=>none⟩
noncomputable def nmR:Norm U:=⟨[],[4],[],[],[],[],[]⟩
noncomputable def RR:Kont U El:=fun st=>normK nmR st (retFin [4] [])
noncomputable def fr0 (l:List Pt):St U El:=⟨[(0,(.lst .pt l)),(1,(.fn 61 [] []))],[]⟩
noncomputable def sh0 (l:List Pt):R :=
  chk (nle (List.length l) 90000) (some ((.bool (ile (0:Int) (findZ nvB 0 l))),[]))
theorem P0 (l):exec X (cdp [] bd) .d (fr0 l) RR (fun _ _=>none) RR=sh0 l:=by kernel_rfl
noncomputable def f0 (l:List Pt):R:=sh0 l
theorem T0 (l):exec X bd .d (fr0 l) RR (fun _ _=>none) RR=f0 l:=by
  refine (P0 l).trans ?_
  show _=sh0 l
  rfl
theorem run (l):runFn X bd .d nmR [4] [] [(.lst .pt l),(.fn 61 [] [])]=f0 l:=T0 l
theorem f0_eq (l:List Pt) (h:(nle (List.length l) 90000)=true):f0 l=outB (List.any l nvB):=by
  show chk _ (outB _)=_
  rw [h,chkT,findZ_any]
theorem ok:CtxOk Try.prog X:=ctxOk tab (spC al1X.spOk spN) dpN
theorem okM:MOk Try.prog X:=fun g sp h=>by cases h
theorem spec (l:List Pt) (h:(nle (List.length l) 90000)=true):CallSpec Try.prog E 35 [(.lst .pt l),(.fn 61 [] [])] (.bool (List.any l nvB)) [] :=
  runFn_sound ok okM Try.call35 Try.func35 (by kernel_rfl) (by kernel_rfl) (by kernel_rfl) (by show 2≤9; decide) (by decide) (by rfl) ((run l).trans (f0_eq l h))
noncomputable def sp:Sp U El:=fun args k=>match args with
  | [.lst .pt l,.fn 61 [] []]=>chk (nle (List.length l) 90000) (k (.bool (List.any l nvB)) [])
  | _=>none
theorem spOk:SpOk Try.prog E 35 sp where
  det:=fun vs=>by
    unfold sp
    split
    · exact det_c _ _ _
    · exact ⟨none,fun _=>rfl⟩
  ok:=fun vs k r h=>by
    unfold sp at h
    split at h
    · obtain ⟨h1, h2⟩ := chk_some h
      exact ⟨_,_,spec _ h1,h2⟩
    · cases h
end al1C
namespace all
noncomputable def bd:Code:=(Try.f39.body).getD .skip
noncomputable def X:Ctx U El:=⟨E,tds,zeros,eqs,specOf [(35,al1C.sp)],100000,6,dspecOf [],fun _=>none⟩
noncomputable def nmR:Norm U:=⟨[],[2],[],[],[],[],[]⟩
noncomputable def RR:Kont U El:=fun st=>normK nmR st (retFin [2] [])
noncomputable def fr0 (l:List Pt):St U El:=⟨[(0,(.lst .pt l))],[]⟩
noncomputable def sh0 (l:List Pt):R :=
  chk (nle (List.length l) 90000) (some ((.bool (!(List.any l nvB))),[]))
theorem P0 (l):exec X (cdp [] bd) .d (fr0 l) RR (fun _ _=>none) RR=sh0 l:=by kernel_rfl
noncomputable def f0 (l:List Pt):R:=sh0 l
theorem T0 (l):exec X bd .d (fr0 l) RR (fun _ _=>none) RR=f0 l:=by
  refine (P0 l).trans ?_
  show _=sh0 l
  rfl
theorem run (l):runFn X bd .d nmR [2] [] [(.lst .pt l)]=f0 l:=T0 l
theorem f0_eq (l:List Pt) (h:nle (List.length l) 90000=true):f0 l=outB (allB l):=by
  show chk _ _=_
  rw [h]
  rfl
theorem ok:CtxOk Try.prog X:=ctxOk tab (spC al1C.spOk spN) dpN
theorem okM:MOk Try.prog X:=fun g sp h=>by cases h
theorem spec (l:List Pt) (h:(nle (List.length l) 90000)=true):CallSpec Try.prog E 39 [(.lst .pt l)] (.bool (allB l)) [] :=
  runFn_sound ok okM Try.call39 Try.func39 (by kernel_rfl) (by kernel_rfl) (by kernel_rfl) (by show 1≤6; decide) (by decide) (by rfl) ((run l).trans (f0_eq l h))
noncomputable def sp:Sp U El:=fun args k=>match args with
  | [.lst .pt l]=>chk (nle (List.length l) 90000) (k (.bool (allB l)) [])
  | _=>none
theorem spOk:SpOk Try.prog E 39 sp where
  det:=fun vs=>by
    unfold sp
    split
    · exact det_c _ _ _
    · exact ⟨none,fun _=>rfl⟩
  ok:=fun vs k r h=>by
    unfold sp at h
    split at h
    · obtain ⟨h1, h2⟩ := chk_some h
      exact ⟨_,_,spec _ h1,h2⟩
    · cases h
end all
theorem abs_mul {x y m:Int} (h1 : -m≤x) (h2:x≤m) (h3 : -m≤y) (h4:y≤m) : -(m * m)≤x * y∧x * y≤m * m:=by
  have hm:0≤m:=by omega
  have a1:0≤(m - x) * (m+y):=Int.mul_nonneg (by omega) (by omega)
  have a2:0≤(m+x) * (m - y):=Int.mul_nonneg (by omega) (by omega)
  have a3:0≤(m - x) * (m - y):=Int.mul_nonneg (by omega) (by omega)
  have a4:0≤(m+x) * (m+y):=Int.mul_nonneg (by omega) (by omega)
  have e1:(m - x) * (m+y)=m * m+m * y - x * m - x * y:=by grind
  have e2:(m+x) * (m - y)=m * m - m * y+x * m - x * y:=by grind
  have e3:(m - x) * (m - y)=m * m - m * y - x * m+x * y:=by grind
  have e4:(m+x) * (m+y)=m * m+m * y+x * m+x * y:=by grind
  rw [e1] at a1; rw [e2] at a2; rw [e3] at a3; rw [e4] at a4
  omega
theorem dif_in {a b:Int} (h1 : -16777216≤a∧a≤16777216) (h2 : -16777216≤b∧b≤16777216) : -33554432≤a - b∧a - b≤33554432:=by omega
theorem trn_wrap {a b c:Pt} (ha:vB a=true) (hb:vB b=true) (hc:vB c=true) :
    IntKind.wrap .i64 ((IntKind.wrap .i64 ((IntKind.wrap .i64 (b.px - a.px)) * (IntKind.wrap .i64 (c.py - a.py)))) - (IntKind.wrap .i64 ((IntKind.wrap .i64 (b.py - a.py)) * (IntKind.wrap .i64 (c.px - a.px)))))=trn a b c:=by
  obtain ⟨a1,a2⟩:=vB_iff.1 ha
  obtain ⟨b1,b2⟩:=vB_iff.1 hb
  obtain ⟨c1,c2⟩:=vB_iff.1 hc
  have d1:=dif_in b1 a1
  have d2:=dif_in c2 a2
  have d3:=dif_in b2 a2
  have d4:=dif_in c1 a1
  have m1:=abs_mul (m:=33554432) d1.1 d1.2 d2.1 d2.2
  have m2:=abs_mul (m:=33554432) d3.1 d3.2 d4.1 d4.2
  unfold trn
  rw [wrapI (x:=b.px - a.px) (by omega) (by omega),wrapI (x:=c.py - a.py) (by omega) (by omega),wrapI (x:=b.py - a.py) (by omega) (by omega),wrapI (x:=c.px - a.px) (by omega) (by omega)]
  generalize (b.px - a.px) * (c.py - a.py)=p at *
  generalize (b.py - a.py) * (c.px - a.px)=q at *
  rw [wrapI (x:=p) (by omega) (by omega),wrapI (x:=q) (by omega) (by omega),wrapI (by omega) (by omega)]
theorem and3 {a b c:Bool} (h:(a&&(b&&c))=true):a=true∧b=true∧c=true:=by simpa using h
theorem and2 {a b:Bool} (h:(a&&b)=true):a=true∧b=true:=by simpa using h
namespace turn
noncomputable def bd:Code:=(Try.f42.body).getD .skip
noncomputable def X:Ctx U El:=⟨E,tds,zeros,eqs,specOf [],100000,30,dspecOf [],fun _=>none⟩
noncomputable def nmR:Norm U:=⟨[],[6],[],[],[],[],[]⟩
noncomputable def RR:Kont U El:=fun st=>normK nmR st (retFin [6] [])
noncomputable def fr0 (a:Pt) (b:Pt) (c:Pt):St U El:=⟨[(0,(.agg [(.int .i64 a.px),(.int .i64 a.py)])),(1,(.agg [(.int .i64 b.px),(.int .i64 b.py)])),(2,(.agg [(.int .i64 c.px),(.int .i64 c.py)]))],[]⟩
noncomputable def sh0 (a:Pt) (b:Pt) (c:Pt):R :=
  some ((.int .i64 (IntKind.wrap .i64 ((IntKind.wrap .i64 ((IntKind.wrap .i64 (b.px - a.px)) * (IntKind.wrap .i64 (c.py - a.py)))) - (IntKind.wrap .i64 ((IntKind.wrap .i64 (b.py - a.py)) * (IntKind.wrap .i64 (c.px - a.px))))))),[])
theorem P0 (a b c):exec X (cdp [] bd) .d (fr0 a b c) RR (fun _ _=>none) RR=sh0 a b c:=by kernel_rfl
noncomputable def f0 (a:Pt) (b:Pt) (c:Pt):R:=sh0 a b c
theorem T0 (a b c):exec X bd .d (fr0 a b c) RR (fun _ _=>none) RR=f0 a b c:=by
  refine (P0 a b c).trans ?_
  show _=sh0 a b c
  rfl
theorem run (a b c):runFn X bd .d nmR [6] [] [(.agg [(.int .i64 a.px),(.int .i64 a.py)]),(.agg [(.int .i64 b.px),(.int .i64 b.py)]),(.agg [(.int .i64 c.px),(.int .i64 c.py)])]=f0 a b c:=T0 a b c
theorem f0_eq (a b c:Pt) (h:(vB a&&(vB b&&vB c))=true):f0 a b c=outI (trn a b c):=by
  obtain ⟨h1,h2,h3⟩:=and3 h
  exact congrArg outI (trn_wrap h1 h2 h3)
theorem ok:CtxOk Try.prog X:=ctxOk tab spN dpN
theorem okM:MOk Try.prog X:=fun g sp h=>by cases h
theorem spec (a:Pt) (b:Pt) (c:Pt) (h:((vB a&&(vB b&&vB c)))=true):CallSpec Try.prog E 42 [(.agg [(.int .i64 a.px),(.int .i64 a.py)]),(.agg [(.int .i64 b.px),(.int .i64 b.py)]),(.agg [(.int .i64 c.px),(.int .i64 c.py)])] (.int .i64 (trn a b c)) [] :=
  runFn_sound ok okM Try.call42 Try.func42 (by kernel_rfl) (by kernel_rfl) (by kernel_rfl) (by show 3≤30; decide) (by decide) (by rfl) ((run a b c).trans (f0_eq a b c h))
noncomputable def sp:Sp U El:=fun args k=>match args with
  | [.agg [.int .i64 a_px,.int .i64 a_py],.agg [.int .i64 b_px,.int .i64 b_py],.agg [.int .i64 c_px,.int .i64 c_py]]=>chk ((vB (⟨a_px,a_py⟩:Pt)&&(vB (⟨b_px,b_py⟩:Pt)&&vB (⟨c_px,c_py⟩:Pt)))) (k (.int .i64 (trn (⟨a_px,a_py⟩:Pt) (⟨b_px,b_py⟩:Pt) (⟨c_px,c_py⟩:Pt))) [])
  | _=>none
theorem spOk:SpOk Try.prog E 42 sp where
  det:=fun vs=>by
    unfold sp
    split
    · exact det_c _ _ _
    · exact ⟨none,fun _=>rfl⟩
  ok:=fun vs k r h=>by
    unfold sp at h
    split at h
    · obtain ⟨h1, h2⟩ := chk_some h
      exact ⟨_,_,spec ⟨_,_⟩ ⟨_,_⟩ ⟨_,_⟩ h1,h2⟩
    · cases h
end turn
noncomputable def btw (n a b:Int):Bool:=(ile a n&&ile n b)||(ile b n&&ile n a)
noncomputable def onB (a b p:Pt):Bool:=(trn a b p == 0)&&(btw p.px a.px b.px&&btw p.py a.py b.py)
theorem btw_minmax (n a b:Int):(ile (bif ilt b a then b else a) n&&ile n (bif ilt a b then b else a))=btw n a b:=by
  unfold btw ile ilt
  apply Bool.eq_iff_iff.2
  by_cases h1:a < b
  · rw [decide_eq_true h1, decide_eq_false (show ¬ b < a by omega)]
    simp only [cond_true,cond_false,Bool.and_eq_true,Bool.or_eq_true,decide_eq_true_eq]
    omega
  · rw [decide_eq_false h1]
    by_cases h2:b < a
    · rw [decide_eq_true h2]
      simp only [cond_true,cond_false,Bool.and_eq_true,Bool.or_eq_true,decide_eq_true_eq]
      omega
    · rw [decide_eq_false h2]
      simp only [cond_true,cond_false,Bool.and_eq_true,Bool.or_eq_true,decide_eq_true_eq]
      omega
theorem cB5 (a b c d e:Bool):condB a (condB b (condB c (condB d (outB e) (outB false)) (outB false)) (outB false)) (outB false)=outB (a&&((b&&c)&&(d&&e))):=by cases a<;>cases b<;>cases c<;>cases d<;>rfl
namespace on
noncomputable def bd:Code:=(Try.f41.body).getD .skip
noncomputable def X:Ctx U El:=⟨E,tds,zeros,eqs,specOf [(42,turn.sp)],100000,52,dspecOf [],fun _=>none⟩
noncomputable def nmR:Norm U:=⟨[],[6],[],[],[],[],[]⟩
noncomputable def RR:Kont U El:=fun st=>normK nmR st (retFin [6] [])
noncomputable def fr0 (a:Pt) (b:Pt) (c:Pt):St U El:=⟨[(0,(.agg [(.int .i64 a.px),(.int .i64 a.py)])),(1,(.agg [(.int .i64 b.px),(.int .i64 b.py)])),(2,(.agg [(.int .i64 c.px),(.int .i64 c.py)]))],[]⟩
noncomputable def sh0 (a:Pt) (b:Pt) (c:Pt):R :=
  chk ((vB a&&(vB b&&vB c))) (condB ((trn a b c) == (0:Int)) (condB (ile (bif ilt b.px a.px then b.px else a.px) c.px) (condB (ile c.px (bif ilt a.px b.px then b.px else a.px)) (condB (ile (bif ilt b.py a.py then b.py else a.py) c.py) (some ((.bool (ile c.py (bif ilt a.py b.py then b.py else a.py))),[])) (some ((.bool false),[]))) (some ((.bool false),[]))) (some ((.bool false),[]))) (some ((.bool false),[])))
theorem P0 (a b c):exec X (cdp [] bd) .d (fr0 a b c) RR (fun _ _=>none) RR=sh0 a b c:=by kernel_rfl
noncomputable def f0 (a:Pt) (b:Pt) (c:Pt):R:=sh0 a b c
theorem T0 (a b c):exec X bd .d (fr0 a b c) RR (fun _ _=>none) RR=f0 a b c:=by
  refine (P0 a b c).trans ?_
  show _=sh0 a b c
  rfl
theorem run (a b c):runFn X bd .d nmR [6] [] [(.agg [(.int .i64 a.px),(.int .i64 a.py)]),(.agg [(.int .i64 b.px),(.int .i64 b.py)]),(.agg [(.int .i64 c.px),(.int .i64 c.py)])]=f0 a b c:=T0 a b c
theorem f0_eq (a b c:Pt) (h:(vB a&&(vB b&&vB c))=true):f0 a b c=outB (onB a b c):=by
  show chk _ _=_
  rw [h]
  refine (cB5 _ _ _ _ _).trans (congrArg outB ?_)
  rw [btw_minmax,btw_minmax]
  rfl
theorem ok:CtxOk Try.prog X:=ctxOk tab (spC turn.spOk spN) dpN
theorem okM:MOk Try.prog X:=fun g sp h=>by cases h
theorem spec (a:Pt) (b:Pt) (c:Pt) (h:((vB a&&(vB b&&vB c)))=true):CallSpec Try.prog E 41 [(.agg [(.int .i64 a.px),(.int .i64 a.py)]),(.agg [(.int .i64 b.px),(.int .i64 b.py)]),(.agg [(.int .i64 c.px),(.int .i64 c.py)])] (.bool (onB a b c)) [] :=
  runFn_sound ok okM Try.call41 Try.func41 (by kernel_rfl) (by kernel_rfl) (by kernel_rfl) (by show 3≤52; decide) (by decide) (by rfl) ((run a b c).trans (f0_eq a b c h))
noncomputable def sp:Sp U El:=fun args k=>match args with
  | [.agg [.int .i64 a_px,.int .i64 a_py],.agg [.int .i64 b_px,.int .i64 b_py],.agg [.int .i64 c_px,.int .i64 c_py]]=>chk ((vB (⟨a_px,a_py⟩:Pt)&&(vB (⟨b_px,b_py⟩:Pt)&&vB (⟨c_px,c_py⟩:Pt)))) (k (.bool (onB (⟨a_px,a_py⟩:Pt) (⟨b_px,b_py⟩:Pt) (⟨c_px,c_py⟩:Pt))) [])
  | _=>none
theorem spOk:SpOk Try.prog E 41 sp where
  det:=fun vs=>by
    unfold sp
    split
    · exact det_c _ _ _
    · exact ⟨none,fun _=>rfl⟩
  ok:=fun vs k r h=>by
    unfold sp at h
    split at h
    · obtain ⟨h1, h2⟩ := chk_some h
      exact ⟨_,_,spec ⟨_,_⟩ ⟨_,_⟩ ⟨_,_⟩ h1,h2⟩
    · cases h
end on
noncomputable def ltB (a b:Pt):Bool:=ilt a.px b.px||((a.px == b.px)&&ilt a.py b.py)
theorem ltB_iff {a b:Pt}:ltB a b=true↔ltP a b:=by
  simp [ltB,ltP,ilt]
namespace first
noncomputable def bd:Code:=(Try.f58.body).getD .skip
noncomputable def X:Ctx U El:=⟨E,tds,zeros,eqs,specOf [],100000,24,dspecOf [],fun _=>none⟩
noncomputable def nmR:Norm U:=⟨[],[4],[],[],[],[],[]⟩
noncomputable def RR:Kont U El:=fun st=>normK nmR st (retFin [4] [])
noncomputable def fr0 (a:Pt) (b:Pt):St U El:=⟨[(0,(.agg [(.int .i64 a.px),(.int .i64 a.py)])),(1,(.agg [(.int .i64 b.px),(.int .i64 b.py)]))],[]⟩
noncomputable def sh0 (a:Pt) (b:Pt):R :=
  condB (ilt a.px b.px) (some ((.bool true),[])) (condB (a.px == b.px) (some ((.bool (ilt a.py b.py)),[])) (some ((.bool false),[])))
theorem P0 (a b):exec X (cdp [] bd) .d (fr0 a b) RR (fun _ _=>none) RR=sh0 a b:=by kernel_rfl
noncomputable def f0 (a:Pt) (b:Pt):R:=sh0 a b
theorem T0 (a b):exec X bd .d (fr0 a b) RR (fun _ _=>none) RR=f0 a b:=by
  refine (P0 a b).trans ?_
  show _=sh0 a b
  rfl
theorem run (a b):runFn X bd .d nmR [4] [] [(.agg [(.int .i64 a.px),(.int .i64 a.py)]),(.agg [(.int .i64 b.px),(.int .i64 b.py)])]=f0 a b:=T0 a b
theorem f0_eq (a b:Pt):f0 a b=outB (ltB a b):=by
  show sh0 a b=_
  unfold sh0 ltB
  cases ilt a.px b.px<;>cases (a.px == b.px)<;>cases ilt a.py b.py<;>rfl
theorem ok:CtxOk Try.prog X:=ctxOk tab spN dpN
theorem okM:MOk Try.prog X:=fun g sp h=>by cases h
theorem spec (a:Pt) (b:Pt):CallSpec Try.prog E 58 [(.agg [(.int .i64 a.px),(.int .i64 a.py)]),(.agg [(.int .i64 b.px),(.int .i64 b.py)])] (.bool (ltB a b)) [] :=
  runFn_sound ok okM Try.call58 Try.func58 (by kernel_rfl) (by kernel_rfl) (by kernel_rfl) (by show 2≤24; decide) (by decide) (by rfl) ((run a b).trans (f0_eq a b))
noncomputable def sp:Sp U El:=fun args k=>match args with
  | [.agg [.int .i64 a_px,.int .i64 a_py],.agg [.int .i64 b_px,.int .i64 b_py]]=>k (.bool (ltB (⟨a_px,a_py⟩:Pt) (⟨b_px,b_py⟩:Pt))) []
  | _=>none
theorem spOk:SpOk Try.prog E 58 sp where
  det:=fun vs=>by
    unfold sp
    split
    · exact ⟨some (_,_),fun _=>rfl⟩
    · exact ⟨none,fun _=>rfl⟩
  ok:=fun vs k r h=>by
    unfold sp at h
    split at h
    · exact ⟨_,_,spec ⟨_,_⟩ ⟨_,_⟩,h⟩
    · cases h
end first
namespace isnan
noncomputable def bd:Code:=(Try.f65.body).getD .skip
noncomputable def X:Ctx U El:=⟨E,tds,zeros,eqs,specOf [],100000,6,dspecOf [],fun _=>none⟩
noncomputable def nmR:Norm U:=⟨[],[2],[],[],[],[],[]⟩
noncomputable def RR:Kont U El:=fun st=>normK nmR st (retFin [2] [])
noncomputable def fr0 (x:Int):St U El:=⟨[(0,(.int .i64 x))],[]⟩
noncomputable def sh0 (x:Int):R :=
  some ((.bool (x != x)),[])
theorem P0 (x):exec X (cdp [] bd) .d (fr0 x) RR (fun _ _=>none) RR=sh0 x:=by kernel_rfl
noncomputable def f0 (x:Int):R:=sh0 x
theorem T0 (x):exec X bd .d (fr0 x) RR (fun _ _=>none) RR=f0 x:=by
  refine (P0 x).trans ?_
  show _=sh0 x
  rfl
theorem run (x):runFn X bd .d nmR [2] [] [(.int .i64 x)]=f0 x:=T0 x
theorem f0_eq (x:Int):f0 x=outB false:=by
  show outB (x != x)=_
  simp
theorem ok:CtxOk Try.prog X:=ctxOk tab spN dpN
theorem okM:MOk Try.prog X:=fun g sp h=>by cases h
theorem spec (x:Int):CallSpec Try.prog E 65 [(.int .i64 x)] (.bool (false)) [] :=
  runFn_sound ok okM Try.call65 Try.func65 (by kernel_rfl) (by kernel_rfl) (by kernel_rfl) (by show 1≤6; decide) (by decide) (by rfl) ((run x).trans (f0_eq x))
noncomputable def sp:Sp U El:=fun args k=>match args with
  | [.int .i64 x]=>k (.bool (false)) []
  | _=>none
theorem spOk:SpOk Try.prog E 65 sp where
  det:=fun vs=>by
    unfold sp
    split
    · exact ⟨some (_,_),fun _=>rfl⟩
    · exact ⟨none,fun _=>rfl⟩
  ok:=fun vs k r h=>by
    unfold sp at h
    split at h
    · exact ⟨_,_,spec _,h⟩
    · cases h
end isnan
namespace cmpI
noncomputable def bd:Code:=(Try.f45.body).getD .skip
noncomputable def X:Ctx U El:=⟨E,tds,zeros,eqs,specOf [(65,isnan.sp)],100000,20,dspecOf [],fun _=>none⟩
noncomputable def nmR:Norm U:=⟨[],[4],[],[],[],[],[]⟩
noncomputable def RR:Kont U El:=fun st=>normK nmR st (retFin [4] [])
noncomputable def fr0 (x:Int) (y:Int):St U El:=⟨[(0,(.int .i64 x)),(1,(.int .i64 y))],[]⟩
noncomputable def sh0 (x:Int) (y:Int):R :=
  condB (false) (condB (false) (some ((.int .i64 (0:Int)),[])) (some ((.int .i64 (-1:Int)),[]))) (condB (false) (some ((.int .i64 (1:Int)),[])) (condB (ilt x y) (some ((.int .i64 (-1:Int)),[])) (condB (ilt y x) (some ((.int .i64 (1:Int)),[])) (some ((.int .i64 (0:Int)),[])))))
theorem P0 (x y):exec X (cdp [] bd) .d (fr0 x y) RR (fun _ _=>none) RR=sh0 x y:=by kernel_rfl
noncomputable def f0 (x:Int) (y:Int):R:=sh0 x y
theorem T0 (x y):exec X bd .d (fr0 x y) RR (fun _ _=>none) RR=f0 x y:=by
  refine (P0 x y).trans ?_
  show _=sh0 x y
  rfl
theorem run (x y):runFn X bd .d nmR [4] [] [(.int .i64 x),(.int .i64 y)]=f0 x y:=T0 x y
theorem f0_eq (x y:Int):f0 x y=outI (cmpZ x y):=by
  show sh0 x y=_
  unfold sh0 cmpZ
  cases ilt x y<;>cases ilt y x<;>rfl
theorem ok:CtxOk Try.prog X:=ctxOk tab (spC isnan.spOk spN) dpN
theorem okM:MOk Try.prog X:=fun g sp h=>by cases h
theorem spec (x:Int) (y:Int):CallSpec Try.prog E 45 [(.int .i64 x),(.int .i64 y)] (.int .i64 (cmpZ x y)) [] :=
  runFn_sound ok okM Try.call45 Try.func45 (by kernel_rfl) (by kernel_rfl) (by kernel_rfl) (by show 2≤20; decide) (by decide) (by rfl) ((run x y).trans (f0_eq x y))
noncomputable def sp:Sp U El:=fun args k=>match args with
  | [.int .i64 x,.int .i64 y]=>k (.int .i64 (cmpZ x y)) []
  | _=>none
theorem spOk:SpOk Try.prog E 45 sp where
  det:=fun vs=>by
    unfold sp
    split
    · exact ⟨some (_,_),fun _=>rfl⟩
    · exact ⟨none,fun _=>rfl⟩
  ok:=fun vs k r h=>by
    unfold sp at h
    split at h
    · exact ⟨_,_,spec _ _,h⟩
    · cases h
end cmpI
namespace orI
noncomputable def bd:Code:=(Try.f54.body).getD .skip
noncomputable def X:Ctx U El:=⟨E,tds,zeros,eqs,specOf [],100000,18,dspecOf [],fun _=>none⟩
noncomputable def nmR:Norm U:=⟨[],[2],[],[],[],[],[]⟩
noncomputable def RR:Kont U El:=fun st=>normK nmR st (retFin [2] [])
noncomputable def nm1:Norm U:=⟨[],[3],[],[],[],[],[]⟩
noncomputable def nm2:Norm U:=⟨[],[3,6,7,8],[],[],[],[],[]⟩
abbrev Y1:=Int→R
abbrev Y2:=Int→(List Int)→Int→Int→R
noncomputable def fr0 (l:List Int):St U El:=⟨[(0,(.lst .int l))],[]⟩
noncomputable def fr1 (aA:Int):St U El:=⟨[(3,(.int .i64 aA))],[]⟩
noncomputable def fr2 (aA:Int) (x6:List Int) (x7:Int) (x8:Int):St U El:=⟨[(3,(.int .i64 aA)),(6,(.lst .int x6)),(7,(.int .i64 x7)),(8,(.int .i64 x8))],[]⟩
noncomputable def sh0 (l:List Int) (k2:Y2):R :=
  k2 (0:Int) l (Int.ofNat (List.length l)) (0:Int)
noncomputable def sh1 (aA:Int):R :=
  some ((.int .i64 aA),[])
noncomputable def sh2 (aA:Int) (x6:List Int) (x7:Int) (x8:Int) (k1:Y1) (k2:Y2):R :=
  condB (ilt x8 x7) (chk (inb x8 (List.length x6)) (condB ((List.getD x6 (Int.toNat x8) d_int) != aA) (some ((.int .i64 (List.getD x6 (Int.toNat x8) d_int)),[])) (k2 aA x6 x7 (IntKind.wrap .i64 (x8+(1:Int)))))) (k1 aA)
noncomputable def it2 (Kb1:Kont U El) (n:Nat):Kont U El:=iter nm2 (fun st' K'=>exec X (cdp [1,1,0,1,0,0] bd) .d st' K' (Eblk 0 (cutK nm1 Kb1) (fun _ _=>none)) RR) n
noncomputable def ct1:Kont U El:=fun st=>exec X (cdp [1,1,1] bd) .d st RR (fun _ _=>none) RR
theorem P0 (l):exec X (cdp [] bd) (.seq none .d (.seq none .d (.seq (some nm1) (.seq none .d (.block (.loop nm2 .d))) .d))) (fr0 l) RR (fun _ _=>none) RR=sh0 l (fun y0 y1 y2 y3=>(hid (it2 (hid ct1) 100000)) (fr2 y0 y1 y2 y3)):=by kernel_rfl
theorem P1 (aA):ct1 (fr1 aA)=sh1 aA:=by kernel_rfl
theorem P2 (aA x6 x7 x8) (Kb1 Kb2:Kont U El):exec X (cdp [1,1,0,1,0,0] bd) .d (fr2 aA x6 x7 x8) (cutK nm2 Kb2) (Eblk 0 (cutK nm1 Kb1) (fun _ _=>none)) RR=sh2 aA x6 x7 x8 (fun y0=>Kb1 (fr1 y0)) (fun y0 y1 y2 y3=>Kb2 (fr2 y0 y1 y2 y3)):=by kernel_rfl
noncomputable def f1 (aA:Int):R:=sh1 aA
noncomputable def f2:Nat→Y2
  | 0=>fun _ _ _ _=>none
  | n+1=>fun aA x6 x7 x8=>sh2 aA x6 x7 x8 f1 (f2 n)
noncomputable def f0 (l:List Int):R:=sh0 l (f2 100000)
theorem T1 (aA):(hid ct1) (fr1 aA)=f1 aA:=by
  refine (congrFun (hid_eq _) _).trans <| (P1 aA).trans ?_
  show _=sh1 aA
  rfl
theorem T2:∀ (n:Nat),∀ aA x6 x7 x8,it2 (hid ct1) n (fr2 aA x6 x7 x8)=f2 n aA x6 x7 x8:=by
  intro n
  induction n with
  | zero=>intros; rfl
  | succ n ih =>
    intro aA x6 x7 x8
    refine (P2 aA x6 x7 x8 (hid ct1) (it2 (hid ct1) n)).trans ?_
    show _=sh2 aA x6 x7 x8 f1 (f2 n)
    simp only [T1,ih]
theorem H2 (aA x6 x7 x8):hid (it2 (hid ct1) 100000) (fr2 aA x6 x7 x8)=f2 100000 aA x6 x7 x8:=(congrFun (hid_eq _) _).trans (T2 100000 aA x6 x7 x8)
theorem T0 (l):exec X bd (.seq none .d (.seq none .d (.seq (some nm1) (.seq none .d (.block (.loop nm2 .d))) .d))) (fr0 l) RR (fun _ _=>none) RR=f0 l:=by
  refine (P0 l).trans ?_
  show _=sh0 l (f2 100000)
  simp only [H2]
theorem run (l):runFn X bd (.seq none .d (.seq none .d (.seq (some nm1) (.seq none .d (.block (.loop nm2 .d))) .d))) nmR [2] [] [(.lst .int l)]=f0 l:=T0 l
theorem f0_eq (l : List Int) (h : nle (List.length l) 90000 = true) : f0 l = outI (orZ l) := by
  have hl:=nleI h
  have key:∀ (n i:Nat),l.length < n+i→i≤l.length→f2 n 0 l (Int.ofNat l.length) (i:Int)=outI (orZ (l.drop i)):=by
    intro n
    induction n with
    | zero=>intro i h1 h2; omega
    | succ n ih =>
      intro i h1 h2
      show sh2 0 l (Int.ofNat l.length) i f1 (f2 n)=_
      unfold sh2
      by_cases hi:i < l.length
      · rw [iltT (by simp; omega), inbT hi, toNat_nat, getD_lt hi, drop_lt hi, wrapS i (by omega)]
        simp only [chkT,condT,orZ]
        cases l[i] != 0
        · exact ih (i+1) (by omega) hi
        · rfl
      · have : i = l.length := by omega
        subst this
        rw [iltF (by simp),List.drop_length]
        rfl
  exact key 100000 0 (by omega) (by omega)
theorem ok:CtxOk Try.prog X:=ctxOk tab spN dpN
theorem okM:MOk Try.prog X:=fun g sp h=>by cases h
theorem spec (l:List Int) (h:(nle (List.length l) 90000)=true):CallSpec Try.prog E 54 [(.lst .int l)] (.int .i64 (orZ l)) [] :=
  runFn_sound ok okM Try.call54 Try.func54 (by kernel_rfl) (by kernel_rfl) (by kernel_rfl) (by show 1≤18; decide) (by decide) (by rfl) ((run l).trans (f0_eq l h))
noncomputable def sp:Sp U El:=fun args k=>match args with
  | [.lst .int l]=>chk (nle (List.length l) 90000) (k (.int .i64 (orZ l)) [])
  | _=>none
theorem spOk:SpOk Try.prog E 54 sp where
  det:=fun vs=>by
    unfold sp
    split
    · exact det_c _ _ _
    · exact ⟨none,fun _=>rfl⟩
  ok:=fun vs k r h=>by
    unfold sp at h
    split at h
    · obtain ⟨h1, h2⟩ := chk_some h
      exact ⟨_,_,spec _ h1,h2⟩
    · cases h
end orI
noncomputable def ordZ (a b:Pt):Int:=orZ [cmpZ a.px b.px,cmpZ a.py b.py]
namespace ord
noncomputable def bd:Code:=(Try.f53.body).getD .skip
noncomputable def X:Ctx U El:=⟨E,tds,zeros,eqs,specOf [(45,cmpI.sp),(54,orI.sp)],100000,17,dspecOf [],fun _=>none⟩
noncomputable def nmR:Norm U:=⟨[],[4],[],[],[],[],[]⟩
noncomputable def RR:Kont U El:=fun st=>normK nmR st (retFin [4] [])
noncomputable def fr0 (a:Pt) (b:Pt):St U El:=⟨[(0,(.agg [(.int .i64 a.px),(.int .i64 a.py)])),(1,(.agg [(.int .i64 b.px),(.int .i64 b.py)]))],[]⟩
noncomputable def sh0 (a:Pt) (b:Pt):R :=
  chk (nle (List.length ([(cmpZ a.px b.px),(cmpZ a.py b.py)]:List Int)) 90000) (some ((.int .i64 (orZ ([(cmpZ a.px b.px),(cmpZ a.py b.py)]:List Int))),[]))
theorem P0 (a b):exec X (cdp [] bd) .d (fr0 a b) RR (fun _ _=>none) RR=sh0 a b:=by kernel_rfl
noncomputable def f0 (a:Pt) (b:Pt):R:=sh0 a b
theorem T0 (a b):exec X bd .d (fr0 a b) RR (fun _ _=>none) RR=f0 a b:=by
  refine (P0 a b).trans ?_
  show _=sh0 a b
  rfl
theorem run (a b):runFn X bd .d nmR [4] [] [(.agg [(.int .i64 a.px),(.int .i64 a.py)]),(.agg [(.int .i64 b.px),(.int .i64 b.py)])]=f0 a b:=T0 a b
theorem f0_eq (a b:Pt):f0 a b=outI (ordZ a b):=rfl
theorem ok:CtxOk Try.prog X:=ctxOk tab (spC cmpI.spOk (spC orI.spOk spN)) dpN
theorem okM:MOk Try.prog X:=fun g sp h=>by cases h
theorem spec (a:Pt) (b:Pt):CallSpec Try.prog E 53 [(.agg [(.int .i64 a.px),(.int .i64 a.py)]),(.agg [(.int .i64 b.px),(.int .i64 b.py)])] (.int .i64 (ordZ a b)) [] :=
  runFn_sound ok okM Try.call53 Try.func53 (by kernel_rfl) (by kernel_rfl) (by kernel_rfl) (by show 2≤17; decide) (by decide) (by rfl) ((run a b).trans (f0_eq a b))
noncomputable def sp:Sp U El:=fun args k=>match args with
  | [.agg [.int .i64 a_px,.int .i64 a_py],.agg [.int .i64 b_px,.int .i64 b_py]]=>k (.int .i64 (ordZ (⟨a_px,a_py⟩:Pt) (⟨b_px,b_py⟩:Pt))) []
  | _=>none
theorem spOk:SpOk Try.prog E 53 sp where
  det:=fun vs=>by
    unfold sp
    split
    · exact ⟨some (_,_),fun _=>rfl⟩
    · exact ⟨none,fun _=>rfl⟩
  ok:=fun vs k r h=>by
    unfold sp at h
    split at h
    · exact ⟨_,_,spec ⟨_,_⟩ ⟨_,_⟩,h⟩
    · cases h
end ord
noncomputable def oriZ (a b c:Pt):Int:=bif allB [a,b,c] then cmpZ (trn a b c) 0 else 0
noncomputable def oriE (a b c:Pt):Int:=bif allB [a,b,c] then 0 else 1
namespace orient
noncomputable def bd:Code:=(Try.f15.body).getD .skip
noncomputable def X:Ctx U El:=⟨E,tds,zeros,eqs,specOf [(39,all.sp),(42,turn.sp),(45,cmpI.sp)],100000,19,dspecOf [],fun _=>none⟩
noncomputable def nmR:Norm U:=⟨[],[6,7],[],[],[],[],[]⟩
noncomputable def RR:Kont U El:=fun st=>normK nmR st (retFin [6,7] [])
noncomputable def fr0 (a:Pt) (b:Pt) (c:Pt):St U El:=⟨[(0,(.agg [(.int .i64 a.px),(.int .i64 a.py)])),(1,(.agg [(.int .i64 b.px),(.int .i64 b.py)])),(2,(.agg [(.int .i64 c.px),(.int .i64 c.py)]))],[]⟩
noncomputable def sh0 (a:Pt) (b:Pt) (c:Pt):R :=
  chk (nle (List.length ([a,b,c]:List Pt)) 90000) (condB (!(allB ([a,b,c]:List Pt))) (some ((.tup [(.int .i64 (0:Int)),(.int .i64 (1:Int))]),[])) (chk ((vB a&&(vB b&&vB c))) (some ((.tup [(.int .i64 (cmpZ (trn a b c) (0:Int))),(.int .i64 (0:Int))]),[]))))
theorem P0 (a b c):exec X (cdp [] bd) .d (fr0 a b c) RR (fun _ _=>none) RR=sh0 a b c:=by kernel_rfl
noncomputable def f0 (a:Pt) (b:Pt) (c:Pt):R:=sh0 a b c
theorem T0 (a b c):exec X bd .d (fr0 a b c) RR (fun _ _=>none) RR=f0 a b c:=by
  refine (P0 a b c).trans ?_
  show _=sh0 a b c
  rfl
theorem run (a b c):runFn X bd .d nmR [6,7] [] [(.agg [(.int .i64 a.px),(.int .i64 a.py)]),(.agg [(.int .i64 b.px),(.int .i64 b.py)]),(.agg [(.int .i64 c.px),(.int .i64 c.py)])]=f0 a b c:=T0 a b c
theorem f0_eq (a b c:Pt):f0 a b c=out2 (oriZ a b c) (oriE a b c):=by
  show sh0 a b c=_
  unfold sh0 oriZ oriE
  rw [show nle (List.length [a,b,c]) 90000=true from rfl,chkT]
  cases h:allB [a,b,c]
  · rfl
  · rw [show (vB a && (vB b && vB c)) = true by simpa [allB, nvB] using h]
    rfl
theorem ok:CtxOk Try.prog X:=ctxOk tab (spC all.spOk (spC turn.spOk (spC cmpI.spOk spN))) dpN
theorem okM:MOk Try.prog X:=fun g sp h=>by cases h
theorem spec (a:Pt) (b:Pt) (c:Pt):CallSpec Try.prog E 15 [(.agg [(.int .i64 a.px),(.int .i64 a.py)]),(.agg [(.int .i64 b.px),(.int .i64 b.py)]),(.agg [(.int .i64 c.px),(.int .i64 c.py)])] (.tup [(.int .i64 (oriZ a b c)),(.int .i64 (oriE a b c))]) [] :=
  runFn_sound ok okM Try.call15 Try.func15 (by kernel_rfl) (by kernel_rfl) (by kernel_rfl) (by show 3≤19; decide) (by decide) (by rfl) ((run a b c).trans (f0_eq a b c))
noncomputable def sp:Sp U El:=fun args k=>match args with
  | [.agg [.int .i64 a_px,.int .i64 a_py],.agg [.int .i64 b_px,.int .i64 b_py],.agg [.int .i64 c_px,.int .i64 c_py]]=>k (.tup [(.int .i64 (oriZ (⟨a_px,a_py⟩:Pt) (⟨b_px,b_py⟩:Pt) (⟨c_px,c_py⟩:Pt))),(.int .i64 (oriE (⟨a_px,a_py⟩:Pt) (⟨b_px,b_py⟩:Pt) (⟨c_px,c_py⟩:Pt)))]) []
  | _=>none
theorem spOk:SpOk Try.prog E 15 sp where
  det:=fun vs=>by
    unfold sp
    split
    · exact ⟨some (_,_),fun _=>rfl⟩
    · exact ⟨none,fun _=>rfl⟩
  ok:=fun vs k r h=>by
    unfold sp at h
    split at h
    · exact ⟨_,_,spec ⟨_,_⟩ ⟨_,_⟩ ⟨_,_⟩,h⟩
    · cases h
end orient
noncomputable def polE (l:List Pt):Int:=bif allB l then (bif ilt (Int.ofNat l.length) 3 then 3 else bif ilt 1000 (Int.ofNat l.length) then 4 else 0) else 1
namespace polygon
noncomputable def bd:Code:=(Try.f50.body).getD .skip
noncomputable def X:Ctx U El:=⟨E,tds,zeros,eqs,specOf [(39,all.sp)],100000,15,dspecOf [],fun _=>none⟩
noncomputable def nmR:Norm U:=⟨[],[2],[],[],[],[],[]⟩
noncomputable def RR:Kont U El:=fun st=>normK nmR st (retFin [2] [])
noncomputable def fr0 (l:List Pt):St U El:=⟨[(0,(.lst .pt l))],[]⟩
noncomputable def sh0 (l:List Pt):R :=
  chk (nle (List.length l) 90000) (condB (!(allB l)) (some ((.int .i64 (1:Int)),[])) (condB (ilt (Int.ofNat (List.length l)) (3:Int)) (some ((.int .i64 (3:Int)),[])) (condB (ilt (1000:Int) (Int.ofNat (List.length l))) (some ((.int .i64 (4:Int)),[])) (some ((.int .i64 (0:Int)),[])))))
theorem P0 (l):exec X (cdp [] bd) .d (fr0 l) RR (fun _ _=>none) RR=sh0 l:=by kernel_rfl
noncomputable def f0 (l:List Pt):R:=sh0 l
theorem T0 (l):exec X bd .d (fr0 l) RR (fun _ _=>none) RR=f0 l:=by
  refine (P0 l).trans ?_
  show _=sh0 l
  rfl
theorem run (l):runFn X bd .d nmR [2] [] [(.lst .pt l)]=f0 l:=T0 l
theorem f0_eq (l:List Pt) (h:nle (List.length l) 90000=true):f0 l=outI (polE l):=by
  show chk _ _=_
  rw [h]
  unfold polE
  cases allB l<;>cases ilt (Int.ofNat l.length) 3<;>cases ilt 1000 (Int.ofNat l.length)<;>rfl
theorem ok:CtxOk Try.prog X:=ctxOk tab (spC all.spOk spN) dpN
theorem okM:MOk Try.prog X:=fun g sp h=>by cases h
theorem spec (l:List Pt) (h:(nle (List.length l) 90000)=true):CallSpec Try.prog E 50 [(.lst .pt l)] (.int .i64 (polE l)) [] :=
  runFn_sound ok okM Try.call50 Try.func50 (by kernel_rfl) (by kernel_rfl) (by kernel_rfl) (by show 1≤15; decide) (by decide) (by rfl) ((run l).trans (f0_eq l h))
noncomputable def sp:Sp U El:=fun args k=>match args with
  | [.lst .pt l]=>chk (nle (List.length l) 90000) (k (.int .i64 (polE l)) [])
  | _=>none
theorem spOk:SpOk Try.prog E 50 sp where
  det:=fun vs=>by
    unfold sp
    split
    · exact det_c _ _ _
    · exact ⟨none,fun _=>rfl⟩
  ok:=fun vs k r h=>by
    unfold sp at h
    split at h
    · obtain ⟨h1, h2⟩ := chk_some h
      exact ⟨_,_,spec _ h1,h2⟩
    · cases h
end polygon
namespace cloneP
noncomputable def bd:Code:=(Try.f51.body).getD .skip
noncomputable def X:Ctx U El:=⟨E,tds,zeros,eqs,specOf [],100000,8,dspecOf [],fun _=>none⟩
noncomputable def nmR:Norm U:=⟨[(2,.pt)],[2],[2],[],[],[],[]⟩
noncomputable def RR:Kont U El:=fun st=>normK nmR st (retFin [2] [2])
noncomputable def fr0 (l:List Pt):St U El:=⟨[(0,(.lst .pt l))],[]⟩
noncomputable def sh0 (l:List Pt):R :=
  condB (nlt 0 (List.length l)) (chk (nle ((List.length ([]:List Pt)+List.length l) * 16) 140737488355328&&nle (List.length ([]:List Pt)+List.length l) 9223372036854775807) (some ((.ful 0),[(0,.rows .pt (([]:List Pt)++l))]))) (amb (some ((.ful 0),[(0,.rows .pt ([]:List Pt))])) (chk (nle ((List.length ([]:List Pt)+List.length l) * 16) 140737488355328&&nle (List.length ([]:List Pt)+List.length l) 9223372036854775807) (some ((.ful 0),[(0,.rows .pt (([]:List Pt)++l))]))))
theorem P0 (l):exec X (cdp [] bd) .d (fr0 l) RR (fun _ _=>none) RR=sh0 l:=by kernel_rfl
noncomputable def f0 (l:List Pt):R:=sh0 l
theorem T0 (l):exec X bd .d (fr0 l) RR (fun _ _=>none) RR=f0 l:=by
  refine (P0 l).trans ?_
  show _=sh0 l
  rfl
theorem run (l):runFn X bd .d nmR [2] [2] [(.lst .pt l)]=f0 l:=T0 l
theorem f0_eq (l:List Pt) (h:(nle (List.length l) 90000)=true):f0 l=some ((.ful 0),[(0,.rows .pt l)]):=by
  have hl:=nleI h
  show sh0 l=_
  unfold sh0
  have e1:nle ((List.length ([]:List Pt)+List.length l) * 16) 140737488355328=true:=nleT (by simp; omega)
  have e2:nle (List.length ([]:List Pt)+List.length l) 9223372036854775807=true:=nleT (by simp; omega)
  rw [e1,e2]
  cases l with
  | nil=>exact amb_same _
  | cons x l=>rfl
theorem ok:CtxOk Try.prog X:=ctxOk tab spN dpN
theorem okM:MOk Try.prog X:=fun g sp h=>by cases h
theorem spec (l:List Pt) (h:(nle (List.length l) 90000)=true):CallSpec Try.prog E 51 [(.lst .pt l)] (.ful 0) [(0,.rows .pt (l))] :=
  runFn_sound ok okM Try.call51 Try.func51 (by kernel_rfl) (by kernel_rfl) (by kernel_rfl) (by show 1≤8; decide) (by decide) (by rfl) ((run l).trans (f0_eq l h))
noncomputable def sp:Sp U El:=fun args k=>match args with
  | [.lst .pt l]=>chk (nle (List.length l) 90000) (k (.ful 0) [(0,.rows .pt (l))])
  | _=>none
theorem spOk:SpOk Try.prog E 51 sp where
  det:=fun vs=>by
    unfold sp
    split
    · exact det_c _ _ _
    · exact ⟨none,fun _=>rfl⟩
  ok:=fun vs k r h=>by
    unfold sp at h
    split at h
    · obtain ⟨h1, h2⟩ := chk_some h
      exact ⟨_,_,spec _ h1,h2⟩
    · cases h
end cloneP
noncomputable def eqLP:List Pt→List Pt→Bool
  | [],_=>true
  | x :: a,y :: b=>eqP x y&&eqLP a b
  | _,_=>false
noncomputable def eqL (a b:List Pt):Bool:=bif (Int.ofNat a.length) != (Int.ofNat b.length) then false else eqLP a b
theorem eqLP_iff:∀ {a b:List Pt},a.length=b.length→(eqLP a b=true↔a=b):=by
  intro a
  induction a with
  | nil => intro b h; cases b with
    | nil=>simp [eqLP]
    | cons y b=>simp at h
  | cons x a ih =>
    intro b h
    cases b with
    | nil=>simp at h
    | cons y b =>
      simp only [eqLP,Bool.and_eq_true,eqP_iff,List.cons.injEq]
      rw [ih (by simpa using h)]
theorem eqL_iff {a b:List Pt}:eqL a b=true↔a=b:=by
  unfold eqL
  cases hb:(Int.ofNat a.length) != (Int.ofNat b.length)
  · exact eqLP_iff (Int.ofNat.inj (by simpa only [bne_eq_false_iff_eq] using hb))
  · constructor
    · intro h; cases h
    · rintro rfl; simp at hb
namespace equalP
noncomputable def bd:Code:=(Try.f31.body).getD .skip
noncomputable def X:Ctx U El:=⟨E,tds,zeros,eqs,specOf [],100000,26,dspecOf [],fun _=>none⟩
noncomputable def nmR:Norm U:=⟨[],[4],[],[],[],[],[]⟩
noncomputable def RR:Kont U El:=fun st=>normK nmR st (retFin [4] [])
noncomputable def nm1:Norm U:=⟨[],[],[],[],[],[],[]⟩
noncomputable def nm2:Norm U:=⟨[],[0,1,12,13],[],[],[],[],[]⟩
abbrev Y1:=R
abbrev Y2:=(List Pt)→(List Pt)→Int→Int→R
noncomputable def fr0 (a:List Pt) (b:List Pt):St U El:=⟨[(0,(.lst .pt a)),(1,(.lst .pt b))],[]⟩
noncomputable def fr1:St U El:=⟨[],[]⟩
noncomputable def fr2 (cA:List Pt) (dA:List Pt) (eA:Int) (bA:Int):St U El:=⟨[(0,(.lst .pt cA)),(1,(.lst .pt dA)),(12,(.int .i64 eA)),(13,(.int .i64 bA))],[]⟩
noncomputable def sh0 (a:List Pt) (b:List Pt) (k2:Y2):R :=
  condB ((Int.ofNat (List.length a)) != (Int.ofNat (List.length b))) (some ((.bool false),[])) (k2 a b (Int.ofNat (List.length a)) (0:Int))
noncomputable def sh1:R :=
  some ((.bool true),[])
noncomputable def sh2 (cA:List Pt) (dA:List Pt) (eA:Int) (bA:Int) (k1:Y1) (k2:Y2):R :=
  condB (ilt bA eA) (chk (inb bA (List.length cA)) (chk (inb bA (List.length dA)) (condB (!(((List.getD cA (Int.toNat bA) d_pt).px == (List.getD dA (Int.toNat bA) d_pt).px)&&(((List.getD cA (Int.toNat bA) d_pt).py == (List.getD dA (Int.toNat bA) d_pt).py)&&true))) (some ((.bool false),[])) (k2 cA dA eA (IntKind.wrap .i64 (bA+(1:Int))))))) (k1)
noncomputable def it2 (Kb1:Kont U El) (n:Nat):Kont U El:=iter nm2 (fun st' K'=>exec X (cdp [1,1,0,1,0,0] bd) .d st' K' (Eblk 0 (cutK nm1 Kb1) (fun _ _=>none)) RR) n
noncomputable def ct1:Kont U El:=fun st=>exec X (cdp [1,1,1] bd) .d st RR (fun _ _=>none) RR
theorem P0 (a b):exec X (cdp [] bd) (.seq none .d (.seq none .d (.seq (some nm1) (.seq none .d (.block (.loop nm2 .d))) .d))) (fr0 a b) RR (fun _ _=>none) RR=sh0 a b (fun y0 y1 y2 y3=>(hid (it2 (hid ct1) 100000)) (fr2 y0 y1 y2 y3)):=by kernel_rfl
theorem P1:ct1 (fr1)=sh1:=by kernel_rfl
theorem P2 (cA dA eA bA) (Kb1 Kb2:Kont U El):exec X (cdp [1,1,0,1,0,0] bd) .d (fr2 cA dA eA bA) (cutK nm2 Kb2) (Eblk 0 (cutK nm1 Kb1) (fun _ _=>none)) RR=sh2 cA dA eA bA (Kb1 (fr1)) (fun y0 y1 y2 y3=>Kb2 (fr2 y0 y1 y2 y3)):=by kernel_rfl
noncomputable def f1:R:=sh1
noncomputable def f2:Nat→Y2
  | 0=>fun _ _ _ _=>none
  | n+1=>fun cA dA eA bA=>sh2 cA dA eA bA f1 (f2 n)
noncomputable def f0 (a:List Pt) (b:List Pt):R:=sh0 a b (f2 100000)
theorem T1:(hid ct1) (fr1)=f1:=by
  refine (congrFun (hid_eq _) _).trans <| (P1).trans ?_
  show _=sh1
  rfl
theorem T2:∀ (n:Nat),∀ cA dA eA bA,it2 (hid ct1) n (fr2 cA dA eA bA)=f2 n cA dA eA bA:=by
  intro n
  induction n with
  | zero=>intros; rfl
  | succ n ih =>
    intro cA dA eA bA
    refine (P2 cA dA eA bA (hid ct1) (it2 (hid ct1) n)).trans ?_
    show _=sh2 cA dA eA bA f1 (f2 n)
    simp only [T1,ih]
theorem H2 (cA dA eA bA):hid (it2 (hid ct1) 100000) (fr2 cA dA eA bA)=f2 100000 cA dA eA bA:=(congrFun (hid_eq _) _).trans (T2 100000 cA dA eA bA)
theorem T0 (a b):exec X bd (.seq none .d (.seq none .d (.seq (some nm1) (.seq none .d (.block (.loop nm2 .d))) .d))) (fr0 a b) RR (fun _ _=>none) RR=f0 a b:=by
  refine (P0 a b).trans ?_
  show _=sh0 a b (f2 100000)
  simp only [H2]
theorem run (a b):runFn X bd (.seq none .d (.seq none .d (.seq (some nm1) (.seq none .d (.block (.loop nm2 .d))) .d))) nmR [4] [] [(.lst .pt a),(.lst .pt b)]=f0 a b:=T0 a b
theorem loop (a b:List Pt) (hl:a.length≤90000) (he:a.length=b.length):∀ (n i:Nat),a.length < n+i→i≤a.length→f2 n a b (Int.ofNat a.length) (i:Int)=outB (eqLP (a.drop i) (b.drop i)):=by
  intro n
  induction n with
  | zero=>intro i h1 h2; omega
  | succ n ih =>
    intro i h1 h2
    show sh2 a b (Int.ofNat a.length) i f1 (f2 n)=_
    unfold sh2
    by_cases hi:i < a.length
    · have hi' : i < b.length := by omega
      rw [iltT (by simp; omega),inbT hi,inbT hi',toNat_nat,getD_lt hi,getD_lt hi',drop_lt hi,drop_lt hi',wrapS i (by omega)]
      simp only [eqLP,eqP]
      cases (a[i].px == b[i].px&&(a[i].py == b[i].py&&true))
      · rfl
      · exact ih (i+1) (by omega) hi
    · have : i = a.length := by omega
      subst this
      rw [iltF (by simp),List.drop_length,he,List.drop_length]
      rfl
theorem f0_eq (a b:List Pt) (h:nle (List.length a) 90000=true):f0 a b=outB (eqL a b):=by
  have hl:a.length≤90000:=nleI h
  unfold f0 sh0 eqL
  cases hb:(Int.ofNat a.length) != (Int.ofNat b.length)
  · have he : a.length = b.length := Int.ofNat.inj (by simpa only [bne_eq_false_iff_eq] using hb)
    exact loop a b hl he 100000 0 (by omega) (by omega)
  · rfl
theorem ok:CtxOk Try.prog X:=ctxOk tab spN dpN
theorem okM:MOk Try.prog X:=fun g sp h=>by cases h
theorem spec (a:List Pt) (b:List Pt) (h:(nle (List.length a) 90000)=true):CallSpec Try.prog E 31 [(.lst .pt a),(.lst .pt b)] (.bool (eqL a b)) [] :=
  runFn_sound ok okM Try.call31 Try.func31 (by kernel_rfl) (by kernel_rfl) (by kernel_rfl) (by show 2≤26; decide) (by decide) (by rfl) ((run a b).trans (f0_eq a b h))
noncomputable def sp:Sp U El:=fun args k=>match args with
  | [.lst .pt a,.lst .pt b]=>chk (nle (List.length a) 90000) (k (.bool (eqL a b)) [])
  | _=>none
theorem spOk:SpOk Try.prog E 31 sp where
  det:=fun vs=>by
    unfold sp
    split
    · exact det_c _ _ _
    · exact ⟨none,fun _=>rfl⟩
  ok:=fun vs k r h=>by
    unfold sp at h
    split at h
    · obtain ⟨h1, h2⟩ := chk_some h
      exact ⟨_,_,spec _ _ h1,h2⟩
    · cases h
end equalP
namespace idxP
noncomputable def bd:Code:=(Try.f60.body).getD .skip
noncomputable def X:Ctx U El:=⟨E,tds,zeros,eqs,specOf [],100000,19,dspecOf [],fun _=>none⟩
noncomputable def nmR:Norm U:=⟨[],[4],[],[],[],[],[]⟩
noncomputable def RR:Kont U El:=fun st=>normK nmR st (retFin [4] [])
noncomputable def nm1:Norm U:=⟨[],[],[],[],[],[],[]⟩
noncomputable def nm2:Norm U:=⟨[],[0,3,7,8],[3],[],[],[],[]⟩
abbrev Y1:=R
abbrev Y2:=(List Pt)→Int→Int→Pt→R
noncomputable def fr0 (l:List Pt) (x:Pt):St U El:=⟨[(0,(.lst .pt l)),(1,(.agg [(.int .i64 x.px),(.int .i64 x.py)]))],[]⟩
noncomputable def fr1:St U El:=⟨[],[]⟩
noncomputable def fr2 (s0:List Pt) (x7:Int) (x8:Int) (b3:Pt):St U El:=⟨[(0,(.lst .pt s0)),(3,(.ptr 3 0)),(7,(.int .i64 x7)),(8,(.int .i64 x8))],[(3,(.box 0 [(.int .i64 b3.px),(.int .i64 b3.py)]))]⟩
noncomputable def sh0 (l:List Pt) (x:Pt) (k2:Y2):R :=
  k2 l (Int.ofNat (List.length l)) (0:Int) x
noncomputable def sh1:R :=
  some ((.int .i64 (-1:Int)),[])
noncomputable def sh2 (s0:List Pt) (x7:Int) (x8:Int) (b3:Pt) (k1:Y1) (k2:Y2):R :=
  condB (ilt x8 x7) (chk (inb x8 (List.length s0)) (condB ((b3.px == (List.getD s0 (Int.toNat x8) d_pt).px)&&((b3.py == (List.getD s0 (Int.toNat x8) d_pt).py)&&true)) (some ((.int .i64 x8),[])) (k2 s0 x7 (IntKind.wrap .i64 (x8+(1:Int))) b3))) (k1)
noncomputable def it2 (Kb1:Kont U El) (n:Nat):Kont U El:=iter nm2 (fun st' K'=>exec X (cdp [1,0,1,0,0] bd) .d st' K' (Eblk 0 (cutK nm1 Kb1) (fun _ _=>none)) RR) n
noncomputable def ct1:Kont U El:=fun st=>exec X (cdp [1,1] bd) .d st RR (fun _ _=>none) RR
theorem P0 (l x):exec X (cdp [] bd) (.seq none .d (.seq (some nm1) (.seq none .d (.block (.loop nm2 .d))) .d)) (fr0 l x) RR (fun _ _=>none) RR=sh0 l x (fun y0 y1 y2 y3=>(hid (it2 (hid ct1) 100000)) (fr2 y0 y1 y2 y3)):=by kernel_rfl
theorem P1:ct1 (fr1)=sh1:=by kernel_rfl
theorem P2 (s0 x7 x8 b3) (Kb1 Kb2:Kont U El):exec X (cdp [1,0,1,0,0] bd) .d (fr2 s0 x7 x8 b3) (cutK nm2 Kb2) (Eblk 0 (cutK nm1 Kb1) (fun _ _=>none)) RR=sh2 s0 x7 x8 b3 (Kb1 (fr1)) (fun y0 y1 y2 y3=>Kb2 (fr2 y0 y1 y2 y3)):=by kernel_rfl
noncomputable def f1:R:=sh1
noncomputable def f2:Nat→Y2
  | 0=>fun _ _ _ _=>none
  | n+1=>fun s0 x7 x8 b3=>sh2 s0 x7 x8 b3 f1 (f2 n)
noncomputable def f0 (l:List Pt) (x:Pt):R:=sh0 l x (f2 100000)
theorem T1:(hid ct1) (fr1)=f1:=by
  refine (congrFun (hid_eq _) _).trans <| (P1).trans ?_
  show _=sh1
  rfl
theorem T2:∀ (n:Nat),∀ s0 x7 x8 b3,it2 (hid ct1) n (fr2 s0 x7 x8 b3)=f2 n s0 x7 x8 b3:=by
  intro n
  induction n with
  | zero=>intros; rfl
  | succ n ih =>
    intro s0 x7 x8 b3
    refine (P2 s0 x7 x8 b3 (hid ct1) (it2 (hid ct1) n)).trans ?_
    show _=sh2 s0 x7 x8 b3 f1 (f2 n)
    simp only [T1,ih]
theorem H2 (s0 x7 x8 b3):hid (it2 (hid ct1) 100000) (fr2 s0 x7 x8 b3)=f2 100000 s0 x7 x8 b3:=(congrFun (hid_eq _) _).trans (T2 100000 s0 x7 x8 b3)
theorem T0 (l x):exec X bd (.seq none .d (.seq (some nm1) (.seq none .d (.block (.loop nm2 .d))) .d)) (fr0 l x) RR (fun _ _=>none) RR=f0 l x:=by
  refine (P0 l x).trans ?_
  show _=sh0 l x (f2 100000)
  simp only [H2]
theorem run (l x):runFn X bd (.seq none .d (.seq (some nm1) (.seq none .d (.block (.loop nm2 .d))) .d)) nmR [4] [] [(.lst .pt l),(.agg [(.int .i64 x.px),(.int .i64 x.py)])]=f0 l x:=T0 l x
theorem f0_eq (l:List Pt) (x:Pt) (h:nle (List.length l) 90000=true):f0 l x=outI (findZ (eqP x) 0 l):=by
  have hl:=nleI h
  refine (grun_eq l (by omega) (fun n_ (_:Unit) i_=>f2 n_ l (Int.ofNat l.length) i_ x) _ (fun _=>outI (-1)) (fun n_ u_ i_ hi_ => ?_) (fun n_ u_ => ?_) 100000 0 () (by omega) (by omega)).trans (grun_find (eqP x) outI l 0)
  · show sh2 l (Int.ofNat l.length) i_ x f1 (f2 n_) = _
    unfold sh2
    rw [iltT (by simp; omega),inbT hi_,toNat_nat,getD_lt hi_]
    rfl
  · show sh2 l (Int.ofNat l.length) (l.length : Int) x f1 (f2 n_) = _
    unfold sh2
    rw [iltF (by simp)]
    rfl
theorem ok:CtxOk Try.prog X:=ctxOk tab spN dpN
theorem okM:MOk Try.prog X:=fun g sp h=>by cases h
theorem spec (l:List Pt) (x:Pt) (h:(nle (List.length l) 90000)=true):CallSpec Try.prog E 60 [(.lst .pt l),(.agg [(.int .i64 x.px),(.int .i64 x.py)])] (.int .i64 (findZ (eqP x) 0 l)) [] :=
  runFn_sound ok okM Try.call60 Try.func60 (by kernel_rfl) (by kernel_rfl) (by kernel_rfl) (by show 2≤19; decide) (by decide) (by rfl) ((run l x).trans (f0_eq l x h))
noncomputable def sp:Sp U El:=fun args k=>match args with
  | [.lst .pt l,.agg [.int .i64 x_px,.int .i64 x_py]]=>chk (nle (List.length l) 90000) (k (.int .i64 (findZ (eqP (⟨x_px,x_py⟩:Pt)) 0 l)) [])
  | _=>none
theorem spOk:SpOk Try.prog E 60 sp where
  det:=fun vs=>by
    unfold sp
    split
    · exact det_c _ _ _
    · exact ⟨none,fun _=>rfl⟩
  ok:=fun vs k r h=>by
    unfold sp at h
    split at h
    · obtain ⟨h1, h2⟩ := chk_some h
      exact ⟨_,_,spec _ ⟨_,_⟩ h1,h2⟩
    · cases h
end idxP
namespace hasP
noncomputable def bd:Code:=(Try.f37.body).getD .skip
noncomputable def X:Ctx U El:=⟨E,tds,zeros,eqs,specOf [(60,idxP.sp)],100000,9,dspecOf [],fun _=>none⟩
noncomputable def nmR:Norm U:=⟨[],[4],[],[],[],[],[]⟩
noncomputable def RR:Kont U El:=fun st=>normK nmR st (retFin [4] [])
noncomputable def fr0 (l:List Pt) (x:Pt):St U El:=⟨[(0,(.lst .pt l)),(1,(.agg [(.int .i64 x.px),(.int .i64 x.py)]))],[]⟩
noncomputable def sh0 (l:List Pt) (x:Pt):R :=
  chk (nle (List.length l) 90000) (some ((.bool (ile (0:Int) (findZ (eqP x) 0 l))),[]))
theorem P0 (l x):exec X (cdp [] bd) .d (fr0 l x) RR (fun _ _=>none) RR=sh0 l x:=by kernel_rfl
noncomputable def f0 (l:List Pt) (x:Pt):R:=sh0 l x
theorem T0 (l x):exec X bd .d (fr0 l x) RR (fun _ _=>none) RR=f0 l x:=by
  refine (P0 l x).trans ?_
  show _=sh0 l x
  rfl
theorem run (l x):runFn X bd .d nmR [4] [] [(.lst .pt l),(.agg [(.int .i64 x.px),(.int .i64 x.py)])]=f0 l x:=T0 l x
theorem f0_eq (l:List Pt) (x:Pt) (h:nle (List.length l) 90000=true):f0 l x=outB (List.any l (eqP x)):=by
  show chk _ (outB _)=_
  rw [h,chkT,findZ_any]
theorem ok:CtxOk Try.prog X:=ctxOk tab (spC idxP.spOk spN) dpN
theorem okM:MOk Try.prog X:=fun g sp h=>by cases h
theorem spec (l:List Pt) (x:Pt) (h:(nle (List.length l) 90000)=true):CallSpec Try.prog E 37 [(.lst .pt l),(.agg [(.int .i64 x.px),(.int .i64 x.py)])] (.bool (List.any l (eqP x))) [] :=
  runFn_sound ok okM Try.call37 Try.func37 (by kernel_rfl) (by kernel_rfl) (by kernel_rfl) (by show 2≤9; decide) (by decide) (by rfl) ((run l x).trans (f0_eq l x h))
noncomputable def sp:Sp U El:=fun args k=>match args with
  | [.lst .pt l,.agg [.int .i64 x_px,.int .i64 x_py]]=>chk (nle (List.length l) 90000) (k (.bool (List.any l (eqP (⟨x_px,x_py⟩:Pt)))) [])
  | _=>none
theorem spOk:SpOk Try.prog E 37 sp where
  det:=fun vs=>by
    unfold sp
    split
    · exact det_c _ _ _
    · exact ⟨none,fun _=>rfl⟩
  ok:=fun vs k r h=>by
    unfold sp at h
    split at h
    · obtain ⟨h1, h2⟩ := chk_some h
      exact ⟨_,_,spec _ ⟨_,_⟩ h1,h2⟩
    · cases h
end hasP
noncomputable def ninB (lw:List Pt) (x:Pt):Bool := !(List.any lw (eqP x))
end Go.Proofs.Ytcabnkclelgoeaa
