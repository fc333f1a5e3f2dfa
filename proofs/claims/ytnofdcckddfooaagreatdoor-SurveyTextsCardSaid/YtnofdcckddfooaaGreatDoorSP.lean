/- Spans and numbers: the code's and the document's readers. -/
import Derived.Test.YtnofdcckddfooaaGreatDoorD4
import Derived.Test.YtnofdcckddfooaaGreatDoorNU
import Derived.Test.YtnofdcckddfooaaGreatDoorCS
namespace Go.Proofs.YtnofdcckddfooaaGreatDoor
set_option linter.unusedSectionVars false
set_option linter.unusedSimpArgs false
set_option linter.unusedVariables false
set_option maxRecDepth 100000
noncomputable def fitsB (n:Int):Bool:=ile (-72057594037927936:Int) n&&ile n (72057594037927936:Int)
noncomputable def spanB (a:Span):Bool:=ile a.slo a.shi&&(fitsB a.slo&&fitsB a.shi)
noncomputable def spanS (a:Span):List UInt8:=bif a.slo == a.shi then Lib.itoa a.slo else (Lib.itoa a.slo++([46,46]:List UInt8))++Lib.itoa a.shi
noncomputable def i64B (n:Int):Bool:=ile (-9223372036854775808) n&&ile n 9223372036854775807
noncomputable def wfSp (a:Span):Bool:=i64B a.slo&&i64B a.shi
noncomputable def spanOk (s f g:List UInt8):Bool:=atoiB f&&(atoiB g&&(spanB (⟨atoiZ f,atoiZ g⟩:Span)&&(spanS (⟨atoiZ f,atoiZ g⟩:Span) == s)))
noncomputable def secS (s:List UInt8):List UInt8:=bif (Lib.cut s ([46,46]:List UInt8)).2.2 then (Lib.cut s ([46,46]:List UInt8)).2.1 else (Lib.cut s ([46,46]:List UInt8)).1
noncomputable def spanK (s:List UInt8):Bool:=spanOk s (Lib.cut s ([46,46]:List UInt8)).1 (secS s)
noncomputable def spanR (s:List UInt8):Span:=bif spanK s then ⟨atoiZ (Lib.cut s ([46,46]:List UInt8)).1,atoiZ (secS s)⟩ else ⟨0,0⟩
noncomputable def spanE (s:List UInt8):Int:=bif spanK s then 0 else 7
noncomputable def outSp (r:Span) (e:Int):R:=some ((.tup [(.agg [(.int .i64 r.slo),(.int .i64 r.shi)]),(.int .i64 e)]),[])
theorem fits_iff {n:Int}:fitsB n=true↔fitsP n:=by
  unfold fitsB fitsP
  rw [Bool.and_eq_true]
  exact ⟨fun h=>⟨ileI h.1,ileI h.2⟩,fun h=>⟨ileT h.1,ileT h.2⟩⟩
theorem span_wf {a:Span} (h:spanB a=true):wfSp a=true:=by
  simp only [spanB,Bool.and_eq_true] at h
  have h1:=fits_iff.1 h.2.1; have h2:=fits_iff.1 h.2.2
  unfold fitsP at h1 h2
  unfold wfSp i64B
  rw [ileT (by omega),ileT (by omega),ileT (by omega),ileT (by omega)]
  rfl
theorem cut_len (s sep:List UInt8):(Lib.cut s sep).1.length≤s.length∧(Lib.cut s sep).2.1.length≤s.length:=by
  unfold Lib.cut
  split
  · simp only [List.length_take, List.length_drop]
    omega
  · simp
namespace fits
noncomputable def bd:Code:=(Tryz.f146.body).getD .skip
noncomputable def X:Ctx U El:=⟨E,tds,zeros,eqs,specOf [],100000,9,dspecOf [],fun _=>none⟩
noncomputable def nmR:Norm U:=⟨[],[2],[],[],[],[],[]⟩
noncomputable def RR:Kont U El:=fun st=>normK nmR st (retFin [2] [])
noncomputable def fr0 (n:Int):St U El:=⟨[(0,(.int .i64 n))],[]⟩
noncomputable def sh0 (n:Int):R :=
  condB (ile (-72057594037927936:Int) n) (some ((.bool (ile n (72057594037927936:Int))),[])) (some ((.bool false),[]))
theorem P0 (n):exec X (cdp [] bd) .d (fr0 n) RR (fun _ _=>none) RR=sh0 n:=by kernel_rfl
noncomputable def f0 (n:Int):R:=sh0 n
theorem T0 (n):exec X bd .d (fr0 n) RR (fun _ _=>none) RR=f0 n:=by
  refine (P0 n).trans ?_
  show _=sh0 n
  rfl
theorem run (n):runFn X bd .d nmR [2] [] [(.int .i64 n)]=f0 n:=T0 n
theorem f0_eq (n:Int):f0 n=outB (fitsB n):=cAnd outB _ _
theorem ok:CtxOk Tryz.prog X:=ctxOk tab spN dpN
theorem okM:MOk Tryz.prog X:=fun g sp h=>by cases h
theorem spec (n:Int):CallSpec Tryz.prog E 146 [(.int .i64 n)] (.bool (fitsB n)) [] :=
  runFn_sound ok okM Tryz.call146 Tryz.func146 (by kernel_rfl) (by kernel_rfl) (by kernel_rfl) (by show 1≤9; decide) (by decide) (by rfl) ((run n).trans (f0_eq n))
noncomputable def sp:Sp U El:=fun args k=>match args with
  | [.int .i64 n]=>k (.bool (fitsB n)) []
  | _=>none
theorem spOk:SpOk Tryz.prog E 146 sp where
  det:=fun vs=>by
    unfold sp
    split
    · exact ⟨some (_,_),fun _=>rfl⟩
    · exact ⟨none,fun _=>rfl⟩
  ok:=fun vs k r h=>by
    unfold sp at h
    split at h
    · exact ⟨_,_,spec _,h⟩
    · cases h
end fits
namespace spanV
noncomputable def bd:Code:=(Tryz.f114.body).getD .skip
noncomputable def X:Ctx U El:=⟨E,tds,zeros,eqs,specOf [(146,fits.sp)],100000,18,dspecOf [],fun _=>none⟩
noncomputable def nmR:Norm U:=⟨[],[2],[],[],[],[],[]⟩
noncomputable def RR:Kont U El:=fun st=>normK nmR st (retFin [2] [])
noncomputable def fr0 (a:Span):St U El:=⟨[(0,(.agg [(.int .i64 a.slo),(.int .i64 a.shi)]))],[]⟩
noncomputable def sh0 (a:Span):R :=
  condB (ile a.slo a.shi) (condB (fitsB a.slo) (some ((.bool (fitsB a.shi)),[])) (some ((.bool false),[]))) (some ((.bool false),[]))
theorem P0 (a):exec X (cdp [] bd) .d (fr0 a) RR (fun _ _=>none) RR=sh0 a:=by kernel_rfl
noncomputable def f0 (a:Span):R:=sh0 a
theorem T0 (a):exec X bd .d (fr0 a) RR (fun _ _=>none) RR=f0 a:=by
  refine (P0 a).trans ?_
  show _=sh0 a
  rfl
theorem run (a):runFn X bd .d nmR [2] [] [(.agg [(.int .i64 a.slo),(.int .i64 a.shi)])]=f0 a:=T0 a
theorem f0_eq (a:Span):f0 a=outB (spanB a):=by
  show sh0 a=_
  unfold sh0 spanB
  cases ile a.slo a.shi<;>cases fitsB a.slo<;>rfl
theorem ok:CtxOk Tryz.prog X:=ctxOk tab (spC fits.spOk spN) dpN
theorem okM:MOk Tryz.prog X:=fun g sp h=>by cases h
theorem spec (a:Span):CallSpec Tryz.prog E 114 [(.agg [(.int .i64 a.slo),(.int .i64 a.shi)])] (.bool (spanB a)) [] :=
  runFn_sound ok okM Tryz.call114 Tryz.func114 (by kernel_rfl) (by kernel_rfl) (by kernel_rfl) (by show 1≤18; decide) (by decide) (by rfl) ((run a).trans (f0_eq a))
noncomputable def sp:Sp U El:=fun args k=>match args with
  | [.agg [.int .i64 a_slo,.int .i64 a_shi]]=>k (.bool (spanB (⟨a_slo,a_shi⟩:Span))) []
  | _=>none
theorem spOk:SpOk Tryz.prog E 114 sp where
  det:=fun vs=>by
    unfold sp
    split
    · exact ⟨some (_,_),fun _=>rfl⟩
    · exact ⟨none,fun _=>rfl⟩
  ok:=fun vs k r h=>by
    unfold sp at h
    split at h
    · exact ⟨_,_,spec ⟨_,_⟩,h⟩
    · cases h
end spanV
namespace spanT
noncomputable def bd:Code:=(Tryz.f115.body).getD .skip
noncomputable def X:Ctx U El:=⟨E,tds,zeros,eqs,specOf [(64,itoa.sp)],100000,19,dspecOf [],fun _=>none⟩
noncomputable def nmR:Norm U:=⟨[],[2],[],[],[],[],[]⟩
noncomputable def RR:Kont U El:=fun st=>normK nmR st (retFin [2] [])
noncomputable def fr0 (a:Span):St U El:=⟨[(0,(.agg [(.int .i64 a.slo),(.int .i64 a.shi)]))],[]⟩
noncomputable def sh0 (a:Span):R :=
  condB (a.slo == a.shi) (chk ((ile (-9223372036854775808) a.slo&&ile a.slo 9223372036854775807)) (some ((.str (Lib.itoa a.slo)),[]))) (chk ((ile (-9223372036854775808) a.slo&&ile a.slo 9223372036854775807)) (chk (nle (List.length (Lib.itoa a.slo)+List.length ([46,46]:List UInt8)) 9223372036854775807) (chk ((ile (-9223372036854775808) a.shi&&ile a.shi 9223372036854775807)) (chk (nle (List.length ((Lib.itoa a.slo)++([46,46]:List UInt8))+List.length (Lib.itoa a.shi)) 9223372036854775807) (some ((.str (((Lib.itoa a.slo)++([46,46]:List UInt8))++(Lib.itoa a.shi))),[]))))))
theorem P0 (a):exec X (cdp [] bd) .d (fr0 a) RR (fun _ _=>none) RR=sh0 a:=by kernel_rfl
noncomputable def f0 (a:Span):R:=sh0 a
theorem T0 (a):exec X bd .d (fr0 a) RR (fun _ _=>none) RR=f0 a:=by
  refine (P0 a).trans ?_
  show _=sh0 a
  rfl
theorem run (a):runFn X bd .d nmR [2] [] [(.agg [(.int .i64 a.slo),(.int .i64 a.shi)])]=f0 a:=T0 a
theorem f0_eq (a:Span) (h:wfSp a=true):f0 a=some ((.str (spanS a)),[]):=by
  simp only [wfSp,i64B,Bool.and_eq_true] at h
  have l1:=Lib.itoa_length_le a.slo (ileI h.1.1) (ileI h.1.2)
  have l2:=Lib.itoa_length_le a.shi (ileI h.2.1) (ileI h.2.2)
  show sh0 a=_
  unfold sh0 spanS
  rw [h.1.1,h.1.2,h.2.1,h.2.2,nleT (by simp; omega),nleT (by simp; omega)]
  cases a.slo == a.shi<;>rfl
theorem ok:CtxOk Tryz.prog X:=ctxOk tab (spC itoa.spOk spN) dpN
theorem okM:MOk Tryz.prog X:=fun g sp h=>by cases h
theorem spec (a:Span) (h:(wfSp a)=true):CallSpec Tryz.prog E 115 [(.agg [(.int .i64 a.slo),(.int .i64 a.shi)])] (.str (spanS a)) [] :=
  runFn_sound ok okM Tryz.call115 Tryz.func115 (by kernel_rfl) (by kernel_rfl) (by kernel_rfl) (by show 1≤19; decide) (by decide) (by rfl) ((run a).trans (f0_eq a h))
noncomputable def sp:Sp U El:=fun args k=>match args with
  | [.agg [.int .i64 a_slo,.int .i64 a_shi]]=>chk (wfSp (⟨a_slo,a_shi⟩:Span)) (k (.str (spanS (⟨a_slo,a_shi⟩:Span))) [])
  | _=>none
theorem spOk:SpOk Tryz.prog E 115 sp where
  det:=fun vs=>by
    unfold sp
    split
    · exact det_c _ _ _
    · exact ⟨none,fun _=>rfl⟩
  ok:=fun vs k r h=>by
    unfold sp at h
    split at h
    · obtain ⟨h1, h2⟩ := chk_some h
      exact ⟨_,_,spec ⟨_,_⟩ h1,h2⟩
    · cases h
end spanT
namespace spanP
noncomputable def bd:Code:=(Tryz.f87.body).getD .skip
noncomputable def X:Ctx U El:=⟨E,tds,zeros,eqs,specOf [(32,cutS.sp),(113,atoiA.sp),(114,spanV.sp),(115,spanT.sp)],100000,53,dspecOf [],fun _=>none⟩
noncomputable def nmR:Norm U:=⟨[],[53,3],[],[],[],[],[]⟩
noncomputable def RR:Kont U El:=fun st=>loadRes X 53 [(2,109)] 53 st fun st=>normK nmR st (retFin [53,3] [])
noncomputable def nm1:Norm U:=⟨[],[0,2,4,5],[2],[],[],[],[]⟩
noncomputable def nm2:Norm U:=⟨[],[2,11],[2,11],[],[],[],[]⟩
abbrev Y1:=(List UInt8)→(List UInt8)→(List UInt8)→Int→Int→R
abbrev Y2:=Int→Int→Span→R
noncomputable def fr0 (s:List UInt8):St U El:=⟨[(0,(.str s))],[]⟩
noncomputable def fr1 (s0:List UInt8) (bA:List UInt8) (aA:List UInt8) (cA:Int) (dA:Int):St U El:=⟨[(0,(.str s0)),(2,(.ptr 2 0)),(4,(.str bA)),(5,(.str aA))],[(2,(.box 0 [(.int .i64 cA),(.int .i64 dA)]))]⟩
noncomputable def fr2 (cA:Int) (dA:Int) (eA:Span):St U El:=⟨[(2,(.ptr 2 0)),(11,(.ptr 11 0))],[(2,(.box 0 [(.int .i64 cA),(.int .i64 dA)])),(11,(.box 0 [(.int .i64 eA.slo),(.int .i64 eA.shi)]))]⟩
noncomputable def sh0 (s:List UInt8) (k1:Y1):R :=
  chk (nle (List.length s) 300000) (condB (!((Lib.cut s ([46,46]:List UInt8)).2.2)) (k1 s ((Lib.cut s ([46,46]:List UInt8)).1) ((Lib.cut s ([46,46]:List UInt8)).1) (0:Int) (0:Int)) (k1 s ((Lib.cut s ([46,46]:List UInt8)).1) ((Lib.cut s ([46,46]:List UInt8)).2.1) (0:Int) (0:Int)))
noncomputable def sh1 (s0:List UInt8) (bA:List UInt8) (aA:List UInt8) (cA:Int) (dA:Int) (k2:Y2):R :=
  chk (nle (List.length bA) 300000) (condB (atoiB bA) (chk (nle (List.length aA) 300000) (condB (atoiB aA) (condB (!(spanB (⟨(atoiZ bA),(atoiZ aA)⟩:Span))) (some ((.tup [(.agg [(.int .i64 (0:Int)),(.int .i64 (0:Int))]),(.int .i64 (7:Int))]),[])) (chk (wfSp (⟨(atoiZ bA),(atoiZ aA)⟩:Span)) (condB (!((spanS (⟨(atoiZ bA),(atoiZ aA)⟩:Span)) == s0)) (some ((.tup [(.agg [(.int .i64 (0:Int)),(.int .i64 (0:Int))]),(.int .i64 (7:Int))]),[])) (k2 cA dA (⟨(atoiZ bA),(atoiZ aA)⟩:Span))))) (some ((.tup [(.agg [(.int .i64 (0:Int)),(.int .i64 (0:Int))]),(.int .i64 (7:Int))]),[])))) (chk (nle (List.length aA) 300000) (condB (atoiB aA) (some ((.tup [(.agg [(.int .i64 (0:Int)),(.int .i64 (0:Int))]),(.int .i64 (7:Int))]),[])) (some ((.tup [(.agg [(.int .i64 (0:Int)),(.int .i64 (0:Int))]),(.int .i64 (7:Int))]),[])))))
noncomputable def sh2 (cA:Int) (dA:Int) (eA:Span):R :=
  some ((.tup [(.agg [(.int .i64 eA.slo),(.int .i64 eA.shi)]),(.int .i64 (0:Int))]),[])
noncomputable def ct1:Kont U El:=fun st=>exec X (cdp [1,1,1] bd) (.seq none .d (.seq none .d (.seq none .d (.seq (some nm2) .d .d)))) st RR (fun _ _=>none) RR
noncomputable def ct2:Kont U El:=fun st=>exec X (cdp [1,1,1,1,1,1,1] bd) .d st RR (fun _ _=>none) RR
theorem P0 (s):exec X (cdp [] bd) (.seq none .d (.seq none .d (.seq (some nm1) .d (.seq none .d (.seq none .d (.seq none .d (.seq (some nm2) .d .d))))))) (fr0 s) RR (fun _ _=>none) RR=sh0 s (fun y0 y1 y2 y3 y4=>(hid ct1) (fr1 y0 y1 y2 y3 y4)):=by kernel_rfl
theorem P1 (s0 bA aA cA dA):ct1 (fr1 s0 bA aA cA dA)=sh1 s0 bA aA cA dA (fun y0 y1 y2=>(hid ct2) (fr2 y0 y1 y2)):=by kernel_rfl
theorem P2 (cA dA eA):ct2 (fr2 cA dA eA)=sh2 cA dA eA:=by kernel_rfl
noncomputable def f2 (cA:Int) (dA:Int) (eA:Span):R:=sh2 cA dA eA
noncomputable def f1 (s0:List UInt8) (bA:List UInt8) (aA:List UInt8) (cA:Int) (dA:Int):R:=sh1 s0 bA aA cA dA f2
noncomputable def f0 (s:List UInt8):R:=sh0 s f1
theorem T2 (cA dA eA):(hid ct2) (fr2 cA dA eA)=f2 cA dA eA:=by
  refine (congrFun (hid_eq _) _).trans <| (P2 cA dA eA).trans ?_
  show _=sh2 cA dA eA
  rfl
theorem T1 (s0 bA aA cA dA):(hid ct1) (fr1 s0 bA aA cA dA)=f1 s0 bA aA cA dA:=by
  refine (congrFun (hid_eq _) _).trans <| (P1 s0 bA aA cA dA).trans ?_
  show _=sh1 s0 bA aA cA dA f2
  simp only [T2]
theorem T0 (s):exec X bd (.seq none .d (.seq none .d (.seq (some nm1) .d (.seq none .d (.seq none .d (.seq none .d (.seq (some nm2) .d .d))))))) (fr0 s) RR (fun _ _=>none) RR=f0 s:=by
  refine (P0 s).trans ?_
  show _=sh0 s f1
  simp only [T1]
theorem run (s):runFnC X bd (.seq none .d (.seq none .d (.seq (some nm1) .d (.seq none .d (.seq none .d (.seq none .d (.seq (some nm2) .d .d))))))) nmR [(2,109)] [53,3] [] [(.str s)]=f0 s:=T0 s
theorem tail (s f g : List UInt8) (x y : Int) (hf : f.length ≤ 300000) (hg : g.length ≤ 300000) : f1 s f g x y = outSp (bif spanOk s f g then ⟨atoiZ f, atoiZ g⟩ else ⟨0, 0⟩) (bif spanOk s f g then 0 else 7) := by
  show sh1 s f g x y f2=_
  unfold sh1 spanOk
  rw [nleT hf,nleT hg]
  cases atoiB f with
  | false=>cases atoiB g<;>rfl
  | true =>
    cases atoiB g with
    | false=>rfl
    | true =>
      cases hs:spanB (⟨atoiZ f,atoiZ g⟩:Span) with
      | false=>rfl
      | true =>
        rw [span_wf hs]
        cases spanS (⟨atoiZ f,atoiZ g⟩:Span) == s<;>rfl
theorem f0_eq (s:List UInt8) (h:nle (List.length s) 300000=true):f0 s=some ((.tup [(.agg [(.int .i64 ((spanR s).slo)),(.int .i64 ((spanR s).shi))]),(.int .i64 (spanE s))]),[]):=by
  have hl:=nleI h
  obtain ⟨c1,c2⟩:=cut_len s [46,46]
  show sh0 s f1=outSp (spanR s) (spanE s)
  unfold sh0 spanR spanE spanK secS
  rw [h,chkT]
  cases hb:(Lib.cut s ([46,46]:List UInt8)).2.2 with
  | false=>exact tail s _ _ 0 0 (by omega) (by omega)
  | true=>exact tail s _ _ 0 0 (by omega) (by omega)
theorem ok:CtxOk Tryz.prog X:=ctxOk tab (spC cutS.spOk (spC atoiA.spOk (spC spanV.spOk (spC spanT.spOk spN)))) dpN
theorem okM:MOk Tryz.prog X:=fun g sp h=>by cases h
theorem spec (s:List UInt8) (h:(nle (List.length s) 300000)=true):CallSpec Tryz.prog E 87 [(.str s)] (.tup [(.agg [(.int .i64 ((spanR s).slo)),(.int .i64 ((spanR s).shi))]),(.int .i64 (spanE s))]) [] :=
  runFnC_sound ok okM Tryz.call87 Tryz.func87 (by kernel_rfl) (by kernel_rfl) (by kernel_rfl) (by show 1≤53; decide) (by decide) (by rfl) ((run s).trans (f0_eq s h))
noncomputable def sp:Sp U El:=fun args k=>match args with
  | [.str s]=>chk (nle (List.length s) 300000) (k (.tup [(.agg [(.int .i64 ((spanR s).slo)),(.int .i64 ((spanR s).shi))]),(.int .i64 (spanE s))]) [])
  | _=>none
theorem spOk:SpOk Tryz.prog E 87 sp where
  det:=fun vs=>by
    unfold sp
    split
    · exact det_c _ _ _
    · exact ⟨none,fun _=>rfl⟩
  ok:=fun vs k r h=>by
    unfold sp at h
    split at h
    · obtain ⟨h1, h2⟩ := chk_some h
      exact ⟨_,_,spec _ h1,h2⟩
    · cases h
end spanP
theorem index_none (c:UInt8) (sub:List UInt8):∀ s:List UInt8,c ∉ s→Lib.index s (c :: sub) = -1:=by
  intro s
  induction s with
  | nil=>intro _; rfl
  | cons b s ih =>
    intro h
    have hb:(c :: sub).isPrefixOf (b :: s)=false:=by
      have:(c == b)=false:=beq_eq_false_iff_ne.2 fun e=>h (by rw [e]; exact List.mem_cons_self ..)
      simp only [List.isPrefixOf,this,Bool.false_and]
    unfold Lib.index
    rw [hb,ih fun e=>h (List.mem_cons_of_mem _ e)]
    rfl
theorem cut_none (c:UInt8) (sub s:List UInt8) (h:c ∉ s):Lib.cut s (c :: sub)=(s,[],false):=by
  unfold Lib.cut
  rw [index_none c sub s h,if_neg (by omega)]
theorem span_num (s:List UInt8) (n:Int):(spanE s=0∧(spanR s).slo=(spanR s).shi∧(spanR s).slo=n)↔NumS s n:=by
  constructor
  · rintro ⟨h1, h2, h3⟩
    cases hk:spanK s with
    | false=>unfold spanE at h1; rw [hk] at h1; cases h1
    | true =>
      have hr:spanR s=⟨atoiZ (Lib.cut s ([46,46]:List UInt8)).1,atoiZ (secS s)⟩:=by unfold spanR; rw [hk]; rfl
      rw [hr] at h2 h3
      dsimp only at h2 h3
      simp only [spanK,spanOk,Bool.and_eq_true] at hk
      obtain ⟨_,_,k1,k2⟩:=hk
      rw [← h2,h3] at k1 k2
      simp only [spanB,Bool.and_eq_true] at k1
      refine ⟨fits_iff.1 k1.2.1,?_⟩
      have k3:=beq_iff_eq.1 k2
      unfold spanS at k3
      dsimp only at k3
      rw [beq_self_eq_true] at k3
      exact k3.symm
  · rintro ⟨h1, rfl⟩
    have hc:Lib.cut (Lib.itoa n) ([46,46]:List UInt8)=(Lib.itoa n,[],false):=cut_none 46 [46] _ (itoa_not n 46 (by decide) (by decide))
    have hs:secS (Lib.itoa n)=Lib.itoa n:=by unfold secS; rw [hc]; rfl
    have hk:spanK (Lib.itoa n)=true:=by
      unfold spanK spanOk
      rw [hs,hc,atoiB_itoa h1,atoiZ_itoa h1]
      unfold spanB spanS
      dsimp only
      rw [fits_iff.2 h1,ileT (Int.le_refl _),beq_self_eq_true,cond_true,beq_self_eq_true]
      rfl
    have hr:spanR (Lib.itoa n)=⟨n,n⟩:=by
      unfold spanR
      rw [hk,cond_true,hs,hc,atoiZ_itoa h1]
    refine ⟨by unfold spanE; rw [hk]; rfl,?_,?_⟩<;>rw [hr]
namespace rspanV
noncomputable def bd:Code:=(Tryz.f96.body).getD .skip
noncomputable def X:Ctx U El:=⟨E,tds,zeros,eqs,specOf [],100000,18,dspecOf [],fun _=>none⟩
noncomputable def nmR:Norm U:=⟨[],[2],[],[],[],[],[]⟩
noncomputable def RR:Kont U El:=fun st=>normK nmR st (retFin [2] [])
noncomputable def fr0 (a:Span):St U El:=⟨[(0,(.agg [(.int .i64 a.slo),(.int .i64 a.shi)]))],[]⟩
noncomputable def sh0 (a:Span):R :=
  condB (ile a.slo a.shi) (condB (ile (-72057594037927936:Int) a.slo) (some ((.bool (ile a.shi (72057594037927936:Int))),[])) (some ((.bool false),[]))) (some ((.bool false),[]))
theorem P0 (a):exec X (cdp [] bd) .d (fr0 a) RR (fun _ _=>none) RR=sh0 a:=by kernel_rfl
noncomputable def f0 (a:Span):R:=sh0 a
theorem T0 (a):exec X bd .d (fr0 a) RR (fun _ _=>none) RR=f0 a:=by
  refine (P0 a).trans ?_
  show _=sh0 a
  rfl
theorem run (a):runFn X bd .d nmR [2] [] [(.agg [(.int .i64 a.slo),(.int .i64 a.shi)])]=f0 a:=T0 a
theorem f0_eq (a : Span) : f0 a = outB (spanB a) := by
  show sh0 a=_
  unfold sh0 spanB fitsB
  by_cases h1:a.slo≤a.shi
  · rw [ileT h1]
    by_cases h2 : -72057594037927936≤a.slo
    · rw [ileT h2]
      by_cases h3:a.shi≤72057594037927936
      · rw [ileT h3, ileT (show a.slo ≤ 72057594037927936 by omega), ileT (show -72057594037927936 ≤ a.shi by omega)]
        rfl
      · rw [ileF h3, Bool.and_false, Bool.and_false]
        rfl
    · rw [ileF h2]
      rfl
  · rw [ileF h1]
    rfl
theorem ok:CtxOk Tryz.prog X:=ctxOk tab spN dpN
theorem okM:MOk Tryz.prog X:=fun g sp h=>by cases h
theorem spec (a:Span):CallSpec Tryz.prog E 96 [(.agg [(.int .i64 a.slo),(.int .i64 a.shi)])] (.bool (spanB a)) [] :=
  runFn_sound ok okM Tryz.call96 Tryz.func96 (by kernel_rfl) (by kernel_rfl) (by kernel_rfl) (by show 1≤18; decide) (by decide) (by rfl) ((run a).trans (f0_eq a))
noncomputable def sp:Sp U El:=fun args k=>match args with
  | [.agg [.int .i64 a_slo,.int .i64 a_shi]]=>k (.bool (spanB (⟨a_slo,a_shi⟩:Span))) []
  | _=>none
theorem spOk:SpOk Tryz.prog E 96 sp where
  det:=fun vs=>by
    unfold sp
    split
    · exact ⟨some (_,_),fun _=>rfl⟩
    · exact ⟨none,fun _=>rfl⟩
  ok:=fun vs k r h=>by
    unfold sp at h
    split at h
    · exact ⟨_,_,spec ⟨_,_⟩,h⟩
    · cases h
end rspanV
end Go.Proofs.YtnofdcckddfooaaGreatDoor
