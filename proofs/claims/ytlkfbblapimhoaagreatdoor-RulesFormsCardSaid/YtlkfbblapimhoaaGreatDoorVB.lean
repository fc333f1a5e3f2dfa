import Derived.Test.YtlkfbblapimhoaaGreatDoorVA
namespace Go.Proofs.YtlkfbblapimhoaaGreatDoor
set_option linter.all false
set_option maxRecDepth 100000
noncomputable def longC (x:Cnd):Bool:=ilt 50 (Int.ofNat x.cn.length)
noncomputable def slightB (r:Rule):Bool:=ile (IntKind.wrap .i64 ((Int.ofNat r.rn.length)+(Int.ofNat r.rl.length))) 100&&(ile (Int.ofNat r.rw.length) 25 && !(List.any r.rw longC))
noncomputable def fatR (r:Rule):Bool:=!(slightB r)
noncomputable def smallB (l:List Rule):Bool:=bif (ilt 20 (Int.ofNat l.length)&&ile (Int.ofNat l.length) 60)||ilt 65 (Int.ofNat l.length) then false else !(List.any l fatR)
namespace sl1
noncomputable def bd:Code:=(Tryz.f64.body).getD .skip
noncomputable def X:Ctx U El:=⟨E,tds,zeros,eqs,specOf [],100000,7,dspecOf [],fun _=>none,fun _=>none⟩
noncomputable def nmR:Norm U:=⟨[],[2],[],[],[],[],[]⟩
noncomputable def RR:Kont U El:=fun st=>normK nmR st (retFin [2] [])
noncomputable def fr0 (x:Cnd):St U El:=⟨[(0,(.agg [(.str x.cn),(.bool x.cb),(.int .i64 x.cl)]))],[]⟩
noncomputable def sh0 (x:Cnd):R :=
 some ((.bool (ilt (50:Int) (Int.ofNat (List.length x.cn)))),[])
theorem P0 (x):exec X (cdp [] bd) .d (fr0 x) RR (fun _ _=>none) RR=sh0 x:=by kernel_rfl
noncomputable def f0 (x:Cnd):R:=sh0 x
theorem T0 (x):exec X bd .d (fr0 x) RR (fun _ _=>none) RR=f0 x:=by
 refine (P0 x).trans ?_
 show _=sh0 x
 rfl
theorem run (x):runFn X bd .d nmR [2] [] [(.agg [(.str x.cn),(.bool x.cb),(.int .i64 x.cl)])]=f0 x:=T0 x
theorem f0_eq (x:Cnd):f0 x=outB (longC x):=rfl
theorem ok:CtxOk Tryz.prog X:=ctxOk tab spN dpN
theorem okM:MOk Tryz.prog X:=fun g sp h=>by cases h
theorem spec (x:Cnd):CallSpec Tryz.prog E 64 [(.agg [(.str x.cn),(.bool x.cb),(.int .i64 x.cl)])] (.bool (longC x)) [] :=
 rfs ok okM Tryz.call64 Tryz.func64 ((run x).trans (f0_eq x))
noncomputable def sp:Sp U El:=fun args k=>match args with
 | [.agg [.str x_cn,.bool x_cb,.int .i64 x_cl]]=>k (.bool (longC (⟨x_cn,x_cb,x_cl⟩:Cnd))) []
 | _=>none
theorem spOk:SpOk Tryz.prog E 64 sp:=⟨fun vs=>by unfold sp;split;exact ⟨some (_,_),fun _=>rfl⟩;exact ⟨none,fun _=>rfl⟩,fun vs k r h=>by unfold sp at h;split at h;exact ⟨_,_,spec ⟨_,_,_⟩,h⟩;cases h⟩
end sl1
namespace sl1X
noncomputable def bd:Code:=(Tryz.f108.body).getD .skip
noncomputable def X:Ctx U El:=⟨E,tds,zeros,eqs,specOf [(64,sl1.sp)],100000,19,dspecOf [],fun _=>none,fun _=>none⟩
noncomputable def nmR:Norm U:=⟨[],[4],[],[],[],[],[]⟩
noncomputable def RR:Kont U El:=fun st=>normK nmR st (retFin [4] [])
noncomputable def nm1:Norm U:=⟨[],[],[],[],[],[],[]⟩
noncomputable def nm2:Norm U:=⟨[],[0,1,7,8],[],[],[],[],[]⟩
abbrev Y1:=R
abbrev Y2:=(List Cnd)→Int→Int→R
noncomputable def fr0 (l:List Cnd):St U El:=⟨[(0,(.lst .cnd l)),(1,(.fn 64 [] []))],[]⟩
noncomputable def fr1:St U El:=⟨[],[]⟩
noncomputable def fr2 (s0:List Cnd) (x7:Int) (x8:Int):St U El:=⟨[(0,(.lst .cnd s0)),(1,(.fn 64 [] [])),(7,(.int .i64 x7)),(8,(.int .i64 x8))],[]⟩
noncomputable def sh0 (l:List Cnd) (k2:Y2):R :=
 k2 l (Int.ofNat (List.length l)) (0:Int)
noncomputable def sh1:R :=
 some ((.int .i64 (-1:Int)),[])
noncomputable def sh2 (s0:List Cnd) (x7:Int) (x8:Int) (k1:Y1) (k2:Y2):R :=
 condB (ilt x8 x7) (chk (inb x8 (List.length s0)) (condB (longC (List.getD s0 (Int.toNat x8) d_cnd)) (some ((.int .i64 x8),[])) (k2 s0 x7 (IntKind.wrap .i64 (x8+(1:Int)))))) (k1)
noncomputable def it2 (Kb1:Kont U El) (n:Nat):Kont U El:=iter nm2 (fun st' K'=>exec X (cdp [1,0,1,0,0] bd) .d st' K' (Eblk 0 (cutK nm1 Kb1) (fun _ _=>none)) RR) n
noncomputable def ct1:Kont U El:=fun st=>exec X (cdp [1,1] bd) .d st RR (fun _ _=>none) RR
theorem P0 (l):exec X (cdp [] bd) (.seq none .d (.seq (some nm1) (.seq none .d (.block (.loop nm2 .d))) .d)) (fr0 l) RR (fun _ _=>none) RR=sh0 l (fun y0 y1 y2=>(hid (it2 (hid ct1) 100000)) (fr2 y0 y1 y2)):=by kernel_rfl
theorem P1:ct1 (fr1)=sh1:=by kernel_rfl
theorem P2 (s0 x7 x8) (Kb1 Kb2:Kont U El):exec X (cdp [1,0,1,0,0] bd) .d (fr2 s0 x7 x8) (cutK nm2 Kb2) (Eblk 0 (cutK nm1 Kb1) (fun _ _=>none)) RR=sh2 s0 x7 x8 (Kb1 (fr1)) (fun y0 y1 y2=>Kb2 (fr2 y0 y1 y2)):=by kernel_rfl
noncomputable def f1:R:=sh1
noncomputable def f2:Nat→Y2
 | 0=>fun _ _ _=>none
 | n+1=>fun s0 x7 x8=>sh2 s0 x7 x8 f1 (f2 n)
noncomputable def f0 (l:List Cnd):R:=sh0 l (f2 100000)
theorem T1:(hid ct1) (fr1)=f1:=by
 refine (congrFun (hid_eq _) _).trans <| (P1).trans ?_
 show _=sh1
 rfl
theorem T2:∀ (n:Nat),∀ s0 x7 x8,it2 (hid ct1) n (fr2 s0 x7 x8)=f2 n s0 x7 x8:=by
  intro n
  induction n with
  | zero=>intros; rfl
  | succ n ih =>
    intro s0 x7 x8
    refine (P2 s0 x7 x8 (hid ct1) (it2 (hid ct1) n)).trans ?_
    show _=sh2 s0 x7 x8 f1 (f2 n)
    simp only [T1,ih]
theorem H2 (s0 x7 x8):hid (it2 (hid ct1) 100000) (fr2 s0 x7 x8)=f2 100000 s0 x7 x8:=(congrFun (hid_eq _) _).trans (T2 100000 s0 x7 x8)
theorem T0 (l):exec X bd (.seq none .d (.seq (some nm1) (.seq none .d (.block (.loop nm2 .d))) .d)) (fr0 l) RR (fun _ _=>none) RR=f0 l:=by
 refine (P0 l).trans ?_
 show _=sh0 l (f2 100000)
 simp only [H2]
theorem run (l):runFn X bd (.seq none .d (.seq (some nm1) (.seq none .d (.block (.loop nm2 .d))) .d)) nmR [4] [] [(.lst .cnd l),(.fn 64 [] [])]=f0 l:=T0 l
theorem f0_eq (l:List Cnd) (h:(nle (List.length l) 90000)=true):f0 l=outI (findZ longC 0 l):=by
 have hl:=nleI h
 refine (grun_eq l (by omega) (fun n_ (_:Unit) i_=>f2 n_ l (Int.ofNat l.length) i_) _ (fun _=>outI (-1)) (fun n_ u_ i_ hi_=>?_) (fun n_ u_=>?_) 100000 0 () (by omega) (by omega)).trans (grun_find longC outI l 0)
 ·show sh2 l (Int.ofNat l.length) i_ f1 (f2 n_)=_
  unfold sh2
  rw [iltT (by simp; omega),inbT hi_,toNat_nat,getD_lt hi_]
  rfl
 ·show sh2 l (Int.ofNat l.length) (l.length:Int) f1 (f2 n_)=_
  unfold sh2
  rw [iltF (by simp)]
  rfl
theorem ok:CtxOk Tryz.prog X:=ctxOk tab (spC sl1.spOk spN) dpN
theorem okM:MOk Tryz.prog X:=fun g sp h=>by cases h
theorem spec (l:List Cnd) (h:(nle (List.length l) 90000)=true):CallSpec Tryz.prog E 108 [(.lst .cnd l),(.fn 64 [] [])] (.int .i64 (findZ longC 0 l)) [] :=
 rfs ok okM Tryz.call108 Tryz.func108 ((run l).trans (f0_eq l h))
noncomputable def sp:Sp U El:=fun args k=>match args with
 | [.lst .cnd l,.fn 64 [] []]=>chk (nle (List.length l) 90000) (k (.int .i64 (findZ longC 0 l)) [])
 | _=>none
theorem spOk:SpOk Tryz.prog E 108 sp:=⟨fun vs=>by unfold sp;split;exact det_c _ _ _;exact ⟨none,fun _=>rfl⟩,fun vs k r h=>by unfold sp at h;split at h;(obtain ⟨h1,h2⟩:=chk_some h;exact ⟨_,_,spec _ h1,h2⟩);cases h⟩
end sl1X
namespace sl1C
noncomputable def bd:Code:=(Tryz.f63.body).getD .skip
noncomputable def X:Ctx U El:=⟨E,tds,zeros,eqs,specOf [(108,sl1X.sp)],100000,9,dspecOf [],fun _=>none,fun _=>none⟩
noncomputable def nmR:Norm U:=⟨[],[4],[],[],[],[],[]⟩
noncomputable def RR:Kont U El:=fun st=>normK nmR st (retFin [4] [])
noncomputable def fr0 (l:List Cnd):St U El:=⟨[(0,(.lst .cnd l)),(1,(.fn 64 [] []))],[]⟩
noncomputable def sh0 (l:List Cnd):R :=
 chk (nle (List.length l) 90000) (some ((.bool (ile (0:Int) (findZ longC 0 l))),[]))
theorem P0 (l):exec X (cdp [] bd) .d (fr0 l) RR (fun _ _=>none) RR=sh0 l:=by kernel_rfl
noncomputable def f0 (l:List Cnd):R:=sh0 l
theorem T0 (l):exec X bd .d (fr0 l) RR (fun _ _=>none) RR=f0 l:=by
 refine (P0 l).trans ?_
 show _=sh0 l
 rfl
theorem run (l):runFn X bd .d nmR [4] [] [(.lst .cnd l),(.fn 64 [] [])]=f0 l:=T0 l
theorem f0_eq (l:List Cnd) (h:(nle (List.length l) 90000)=true):f0 l=outB (List.any l longC):=by
 show chk _ (outB _)=_
 rw [h,chkT,findZ_any]
theorem ok:CtxOk Tryz.prog X:=ctxOk tab (spC sl1X.spOk spN) dpN
theorem okM:MOk Tryz.prog X:=fun g sp h=>by cases h
theorem spec (l:List Cnd) (h:(nle (List.length l) 90000)=true):CallSpec Tryz.prog E 63 [(.lst .cnd l),(.fn 64 [] [])] (.bool (List.any l longC)) [] :=
 rfs ok okM Tryz.call63 Tryz.func63 ((run l).trans (f0_eq l h))
noncomputable def sp:Sp U El:=fun args k=>match args with
 | [.lst .cnd l,.fn 64 [] []]=>chk (nle (List.length l) 90000) (k (.bool (List.any l longC)) [])
 | _=>none
theorem spOk:SpOk Tryz.prog E 63 sp:=⟨fun vs=>by unfold sp;split;exact det_c _ _ _;exact ⟨none,fun _=>rfl⟩,fun vs k r h=>by unfold sp at h;split at h;(obtain ⟨h1,h2⟩:=chk_some h;exact ⟨_,_,spec _ h1,h2⟩);cases h⟩
end sl1C
namespace slight
noncomputable def bd:Code:=(Tryz.f21.body).getD .skip
noncomputable def X:Ctx U El:=⟨E,tds,zeros,eqs,specOf [(63,sl1C.sp)],100000,23,dspecOf [],fun _=>none,fun _=>none⟩
noncomputable def nmR:Norm U:=⟨[],[2],[],[],[],[],[]⟩
noncomputable def RR:Kont U El:=fun st=>normK nmR st (retFin [2] [])
noncomputable def fr0 (r:Rule):St U El:=⟨[(0,(.agg [(.str r.rn),(.lst .cnd r.rw),(.str r.rl),(.int .i64 r.rs)]))],[]⟩
noncomputable def sh0 (r:Rule):R :=
 condB (ile (IntKind.wrap .i64 ((Int.ofNat (List.length r.rn))+(Int.ofNat (List.length r.rl)))) (100:Int)) (condB (ile (Int.ofNat (List.length r.rw)) (25:Int)) (chk (nle (List.length r.rw) 90000) (some ((.bool (!(List.any r.rw longC))),[]))) (some ((.bool false),[]))) (some ((.bool false),[]))
theorem P0 (r):exec X (cdp [] bd) .d (fr0 r) RR (fun _ _=>none) RR=sh0 r:=by kernel_rfl
noncomputable def f0 (r:Rule):R:=sh0 r
theorem T0 (r):exec X bd .d (fr0 r) RR (fun _ _=>none) RR=f0 r:=by
 refine (P0 r).trans ?_
 show _=sh0 r
 rfl
theorem run (r):runFn X bd .d nmR [2] [] [(.agg [(.str r.rn),(.lst .cnd r.rw),(.str r.rl),(.int .i64 r.rs)])]=f0 r:=T0 r
theorem f0_eq (r:Rule):f0 r=outB (slightB r):=by
 show sh0 r=_
 unfold sh0 slightB
 by_cases h:Int.ofNat r.rw.length≤(25:Int)
 ·rw [show ile (Int.ofNat r.rw.length) 25=true from ileT h,nleT (show r.rw.length ≤ 90000 by simp at h; omega)]
  exact cAnd outB _ _
 ·rw [show ile (Int.ofNat r.rw.length) 25=false from ileF h]
  cases ile _ _<;>rfl
theorem ok:CtxOk Tryz.prog X:=ctxOk tab (spC sl1C.spOk spN) dpN
theorem okM:MOk Tryz.prog X:=fun g sp h=>by cases h
theorem spec (r:Rule):CallSpec Tryz.prog E 21 [(.agg [(.str r.rn),(.lst .cnd r.rw),(.str r.rl),(.int .i64 r.rs)])] (.bool (slightB r)) [] :=
 rfs ok okM Tryz.call21 Tryz.func21 ((run r).trans (f0_eq r))
noncomputable def sp:Sp U El:=fun args k=>match args with
 | [.agg [.str r_rn,.lst .cnd r_rw,.str r_rl,.int .i64 r_rs]]=>k (.bool (slightB (⟨r_rn,r_rw,r_rl,r_rs⟩:Rule))) []
 | _=>none
theorem spOk:SpOk Tryz.prog E 21 sp:=⟨fun vs=>by unfold sp;split;exact ⟨some (_,_),fun _=>rfl⟩;exact ⟨none,fun _=>rfl⟩,fun vs k r h=>by unfold sp at h;split at h;exact ⟨_,_,spec ⟨_,_,_,_⟩,h⟩;cases h⟩
end slight
namespace sm1
noncomputable def bd:Code:=(Tryz.f37.body).getD .skip
noncomputable def X:Ctx U El:=⟨E,tds,zeros,eqs,specOf [(21,slight.sp)],100000,6,dspecOf [],fun _=>none,fun _=>none⟩
noncomputable def nmR:Norm U:=⟨[],[2],[],[],[],[],[]⟩
noncomputable def RR:Kont U El:=fun st=>normK nmR st (retFin [2] [])
noncomputable def fr0 (x:Rule):St U El:=⟨[(0,(.agg [(.str x.rn),(.lst .cnd x.rw),(.str x.rl),(.int .i64 x.rs)]))],[]⟩
noncomputable def sh0 (x:Rule):R :=
 some ((.bool (!(slightB x))),[])
theorem P0 (x):exec X (cdp [] bd) .d (fr0 x) RR (fun _ _=>none) RR=sh0 x:=by kernel_rfl
noncomputable def f0 (x:Rule):R:=sh0 x
theorem T0 (x):exec X bd .d (fr0 x) RR (fun _ _=>none) RR=f0 x:=by
 refine (P0 x).trans ?_
 show _=sh0 x
 rfl
theorem run (x):runFn X bd .d nmR [2] [] [(.agg [(.str x.rn),(.lst .cnd x.rw),(.str x.rl),(.int .i64 x.rs)])]=f0 x:=T0 x
theorem f0_eq (x:Rule):f0 x=outB (fatR x):=rfl
theorem ok:CtxOk Tryz.prog X:=ctxOk tab (spC slight.spOk spN) dpN
theorem okM:MOk Tryz.prog X:=fun g sp h=>by cases h
theorem spec (x:Rule):CallSpec Tryz.prog E 37 [(.agg [(.str x.rn),(.lst .cnd x.rw),(.str x.rl),(.int .i64 x.rs)])] (.bool (fatR x)) [] :=
 rfs ok okM Tryz.call37 Tryz.func37 ((run x).trans (f0_eq x))
noncomputable def sp:Sp U El:=fun args k=>match args with
 | [.agg [.str x_rn,.lst .cnd x_rw,.str x_rl,.int .i64 x_rs]]=>k (.bool (fatR (⟨x_rn,x_rw,x_rl,x_rs⟩:Rule))) []
 | _=>none
theorem spOk:SpOk Tryz.prog E 37 sp:=⟨fun vs=>by unfold sp;split;exact ⟨some (_,_),fun _=>rfl⟩;exact ⟨none,fun _=>rfl⟩,fun vs k r h=>by unfold sp at h;split at h;exact ⟨_,_,spec ⟨_,_,_,_⟩,h⟩;cases h⟩
end sm1
namespace sm1X
noncomputable def bd:Code:=(Tryz.f76.body).getD .skip
noncomputable def X:Ctx U El:=⟨E,tds,zeros,eqs,specOf [(37,sm1.sp)],100000,19,dspecOf [],fun _=>none,fun _=>none⟩
noncomputable def nmR:Norm U:=⟨[],[4],[],[],[],[],[]⟩
noncomputable def RR:Kont U El:=fun st=>normK nmR st (retFin [4] [])
noncomputable def nm1:Norm U:=⟨[],[],[],[],[],[],[]⟩
noncomputable def nm2:Norm U:=⟨[],[0,1,7,8],[],[],[],[],[]⟩
abbrev Y1:=R
abbrev Y2:=(List Rule)→Int→Int→R
noncomputable def fr0 (l:List Rule):St U El:=⟨[(0,(.lst .rule l)),(1,(.fn 37 [] []))],[]⟩
noncomputable def fr1:St U El:=⟨[],[]⟩
noncomputable def fr2 (s0:List Rule) (x7:Int) (x8:Int):St U El:=⟨[(0,(.lst .rule s0)),(1,(.fn 37 [] [])),(7,(.int .i64 x7)),(8,(.int .i64 x8))],[]⟩
noncomputable def sh0 (l:List Rule) (k2:Y2):R :=
 k2 l (Int.ofNat (List.length l)) (0:Int)
noncomputable def sh1:R :=
 some ((.int .i64 (-1:Int)),[])
noncomputable def sh2 (s0:List Rule) (x7:Int) (x8:Int) (k1:Y1) (k2:Y2):R :=
 condB (ilt x8 x7) (chk (inb x8 (List.length s0)) (condB (fatR (List.getD s0 (Int.toNat x8) d_rule)) (some ((.int .i64 x8),[])) (k2 s0 x7 (IntKind.wrap .i64 (x8+(1:Int)))))) (k1)
noncomputable def it2 (Kb1:Kont U El) (n:Nat):Kont U El:=iter nm2 (fun st' K'=>exec X (cdp [1,0,1,0,0] bd) .d st' K' (Eblk 0 (cutK nm1 Kb1) (fun _ _=>none)) RR) n
noncomputable def ct1:Kont U El:=fun st=>exec X (cdp [1,1] bd) .d st RR (fun _ _=>none) RR
theorem P0 (l):exec X (cdp [] bd) (.seq none .d (.seq (some nm1) (.seq none .d (.block (.loop nm2 .d))) .d)) (fr0 l) RR (fun _ _=>none) RR=sh0 l (fun y0 y1 y2=>(hid (it2 (hid ct1) 100000)) (fr2 y0 y1 y2)):=by kernel_rfl
theorem P1:ct1 (fr1)=sh1:=by kernel_rfl
theorem P2 (s0 x7 x8) (Kb1 Kb2:Kont U El):exec X (cdp [1,0,1,0,0] bd) .d (fr2 s0 x7 x8) (cutK nm2 Kb2) (Eblk 0 (cutK nm1 Kb1) (fun _ _=>none)) RR=sh2 s0 x7 x8 (Kb1 (fr1)) (fun y0 y1 y2=>Kb2 (fr2 y0 y1 y2)):=by kernel_rfl
noncomputable def f1:R:=sh1
noncomputable def f2:Nat→Y2
 | 0=>fun _ _ _=>none
 | n+1=>fun s0 x7 x8=>sh2 s0 x7 x8 f1 (f2 n)
noncomputable def f0 (l:List Rule):R:=sh0 l (f2 100000)
theorem T1:(hid ct1) (fr1)=f1:=by
 refine (congrFun (hid_eq _) _).trans <| (P1).trans ?_
 show _=sh1
 rfl
theorem T2:∀ (n:Nat),∀ s0 x7 x8,it2 (hid ct1) n (fr2 s0 x7 x8)=f2 n s0 x7 x8:=by
  intro n
  induction n with
  | zero=>intros; rfl
  | succ n ih =>
    intro s0 x7 x8
    refine (P2 s0 x7 x8 (hid ct1) (it2 (hid ct1) n)).trans ?_
    show _=sh2 s0 x7 x8 f1 (f2 n)
    simp only [T1,ih]
theorem H2 (s0 x7 x8):hid (it2 (hid ct1) 100000) (fr2 s0 x7 x8)=f2 100000 s0 x7 x8:=(congrFun (hid_eq _) _).trans (T2 100000 s0 x7 x8)
theorem T0 (l):exec X bd (.seq none .d (.seq (some nm1) (.seq none .d (.block (.loop nm2 .d))) .d)) (fr0 l) RR (fun _ _=>none) RR=f0 l:=by
 refine (P0 l).trans ?_
 show _=sh0 l (f2 100000)
 simp only [H2]
theorem run (l):runFn X bd (.seq none .d (.seq (some nm1) (.seq none .d (.block (.loop nm2 .d))) .d)) nmR [4] [] [(.lst .rule l),(.fn 37 [] [])]=f0 l:=T0 l
theorem f0_eq (l:List Rule) (h:(nle (List.length l) 90000)=true):f0 l=outI (findZ fatR 0 l):=by
 have hl:=nleI h
 refine (grun_eq l (by omega) (fun n_ (_:Unit) i_=>f2 n_ l (Int.ofNat l.length) i_) _ (fun _=>outI (-1)) (fun n_ u_ i_ hi_=>?_) (fun n_ u_=>?_) 100000 0 () (by omega) (by omega)).trans (grun_find fatR outI l 0)
 ·show sh2 l (Int.ofNat l.length) i_ f1 (f2 n_)=_
  unfold sh2
  rw [iltT (by simp; omega),inbT hi_,toNat_nat,getD_lt hi_]
  rfl
 ·show sh2 l (Int.ofNat l.length) (l.length:Int) f1 (f2 n_)=_
  unfold sh2
  rw [iltF (by simp)]
  rfl
theorem ok:CtxOk Tryz.prog X:=ctxOk tab (spC sm1.spOk spN) dpN
theorem okM:MOk Tryz.prog X:=fun g sp h=>by cases h
theorem spec (l:List Rule) (h:(nle (List.length l) 90000)=true):CallSpec Tryz.prog E 76 [(.lst .rule l),(.fn 37 [] [])] (.int .i64 (findZ fatR 0 l)) [] :=
 rfs ok okM Tryz.call76 Tryz.func76 ((run l).trans (f0_eq l h))
noncomputable def sp:Sp U El:=fun args k=>match args with
 | [.lst .rule l,.fn 37 [] []]=>chk (nle (List.length l) 90000) (k (.int .i64 (findZ fatR 0 l)) [])
 | _=>none
theorem spOk:SpOk Tryz.prog E 76 sp:=⟨fun vs=>by unfold sp;split;exact det_c _ _ _;exact ⟨none,fun _=>rfl⟩,fun vs k r h=>by unfold sp at h;split at h;(obtain ⟨h1,h2⟩:=chk_some h;exact ⟨_,_,spec _ h1,h2⟩);cases h⟩
end sm1X
namespace sm1C
noncomputable def bd:Code:=(Tryz.f36.body).getD .skip
noncomputable def X:Ctx U El:=⟨E,tds,zeros,eqs,specOf [(76,sm1X.sp)],100000,9,dspecOf [],fun _=>none,fun _=>none⟩
noncomputable def nmR:Norm U:=⟨[],[4],[],[],[],[],[]⟩
noncomputable def RR:Kont U El:=fun st=>normK nmR st (retFin [4] [])
noncomputable def fr0 (l:List Rule):St U El:=⟨[(0,(.lst .rule l)),(1,(.fn 37 [] []))],[]⟩
noncomputable def sh0 (l:List Rule):R :=
 chk (nle (List.length l) 90000) (some ((.bool (ile (0:Int) (findZ fatR 0 l))),[]))
theorem P0 (l):exec X (cdp [] bd) .d (fr0 l) RR (fun _ _=>none) RR=sh0 l:=by kernel_rfl
noncomputable def f0 (l:List Rule):R:=sh0 l
theorem T0 (l):exec X bd .d (fr0 l) RR (fun _ _=>none) RR=f0 l:=by
 refine (P0 l).trans ?_
 show _=sh0 l
 rfl
theorem run (l):runFn X bd .d nmR [4] [] [(.lst .rule l),(.fn 37 [] [])]=f0 l:=T0 l
theorem f0_eq (l:List Rule) (h:(nle (List.length l) 90000)=true):f0 l=outB (List.any l fatR):=by
 show chk _ (outB _)=_
 rw [h,chkT,findZ_any]
theorem ok:CtxOk Tryz.prog X:=ctxOk tab (spC sm1X.spOk spN) dpN
theorem okM:MOk Tryz.prog X:=fun g sp h=>by cases h
theorem spec (l:List Rule) (h:(nle (List.length l) 90000)=true):CallSpec Tryz.prog E 36 [(.lst .rule l),(.fn 37 [] [])] (.bool (List.any l fatR)) [] :=
 rfs ok okM Tryz.call36 Tryz.func36 ((run l).trans (f0_eq l h))
noncomputable def sp:Sp U El:=fun args k=>match args with
 | [.lst .rule l,.fn 37 [] []]=>chk (nle (List.length l) 90000) (k (.bool (List.any l fatR)) [])
 | _=>none
theorem spOk:SpOk Tryz.prog E 36 sp:=⟨fun vs=>by unfold sp;split;exact det_c _ _ _;exact ⟨none,fun _=>rfl⟩,fun vs k r h=>by unfold sp at h;split at h;(obtain ⟨h1,h2⟩:=chk_some h;exact ⟨_,_,spec _ h1,h2⟩);cases h⟩
end sm1C
namespace small
noncomputable def bd:Code:=(Tryz.f8.body).getD .skip
noncomputable def X:Ctx U El:=⟨E,tds,zeros,eqs,specOf [(36,sm1C.sp)],100000,19,dspecOf [],fun _=>none,fun _=>none⟩
noncomputable def nmR:Norm U:=⟨[],[2],[],[],[],[],[]⟩
noncomputable def RR:Kont U El:=fun st=>normK nmR st (retFin [2] [])
noncomputable def nm1:Norm U:=⟨[],[0],[],[],[],[],[]⟩
abbrev Y1:=(List Rule)→R
noncomputable def fr0 (l:List Rule):St U El:=⟨[(0,(.lst .rule l))],[]⟩
noncomputable def fr1 (l0:List Rule):St U El:=⟨[(0,(.lst .rule l0))],[]⟩
noncomputable def sh0 (l:List Rule) (k1:Y1):R :=
 condB (ilt (20:Int) (Int.ofNat (List.length l))) (condB (ile (Int.ofNat (List.length l)) (60:Int)) (some ((.bool false),[])) (condB (ilt (65:Int) (Int.ofNat (List.length l))) (some ((.bool false),[])) (k1 l))) (condB (ilt (65:Int) (Int.ofNat (List.length l))) (some ((.bool false),[])) (k1 l))
noncomputable def sh1 (l0:List Rule):R :=
 chk (nle (List.length l0) 90000) (some ((.bool (!(List.any l0 fatR))),[]))
noncomputable def ct1:Kont U El:=fun st=>exec X (cdp [1,1] bd) .d st RR (fun _ _=>none) RR
theorem P0 (l):exec X (cdp [] bd) (.seq none .d (.seq (some nm1) .d .d)) (fr0 l) RR (fun _ _=>none) RR=sh0 l (fun y0=>(hid ct1) (fr1 y0)):=by kernel_rfl
theorem P1 (l0):ct1 (fr1 l0)=sh1 l0:=by kernel_rfl
noncomputable def f1 (l0:List Rule):R:=sh1 l0
noncomputable def f0 (l:List Rule):R:=sh0 l f1
theorem T1 (l0):(hid ct1) (fr1 l0)=f1 l0:=by
 refine (congrFun (hid_eq _) _).trans <| (P1 l0).trans ?_
 show _=sh1 l0
 rfl
theorem T0 (l):exec X bd (.seq none .d (.seq (some nm1) .d .d)) (fr0 l) RR (fun _ _=>none) RR=f0 l:=by
 refine (P0 l).trans ?_
 show _=sh0 l f1
 simp only [T1]
theorem run (l):runFn X bd (.seq none .d (.seq (some nm1) .d .d)) nmR [2] [] [(.lst .rule l)]=f0 l:=T0 l
theorem f0_eq (l:List Rule):f0 l=outB (smallB l):=by
 show sh0 l f1=_
 unfold sh0 smallB
 have e:f1 l=chk (nle (List.length l) 90000) (outB (!(List.any l fatR))):=rfl
 by_cases h:(65:Int) < Int.ofNat l.length
 ·rw [show ilt 65 (Int.ofNat l.length)=true from iltT h]
  cases ilt 20 (Int.ofNat l.length)<;>cases ile (Int.ofNat l.length) 60<;>rfl
 ·rw [show ilt 65 (Int.ofNat l.length)=false from iltF h,e,nleT (show l.length ≤ 90000 by simp at h; omega)]
  cases ilt 20 (Int.ofNat l.length)<;>cases ile (Int.ofNat l.length) 60<;>rfl
theorem ok:CtxOk Tryz.prog X:=ctxOk tab (spC sm1C.spOk spN) dpN
theorem okM:MOk Tryz.prog X:=fun g sp h=>by cases h
theorem spec (l:List Rule):CallSpec Tryz.prog E 8 [(.lst .rule l)] (.bool (smallB l)) [] :=
 rfs ok okM Tryz.call8 Tryz.func8 ((run l).trans (f0_eq l))
noncomputable def sp:Sp U El:=fun args k=>match args with
 | [.lst .rule l]=>k (.bool (smallB l)) []
 | _=>none
theorem spOk:SpOk Tryz.prog E 8 sp:=⟨fun vs=>by unfold sp;split;exact ⟨some (_,_),fun _=>rfl⟩;exact ⟨none,fun _=>rfl⟩,fun vs k r h=>by unfold sp at h;split at h;exact ⟨_,_,spec _,h⟩;cases h⟩
end small
end Go.Proofs.YtlkfbblapimhoaaGreatDoor
