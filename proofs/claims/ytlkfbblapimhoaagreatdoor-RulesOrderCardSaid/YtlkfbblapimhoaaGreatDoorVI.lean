/- Small arguments; what holds; the settings, of the code and of the document; the law RulesSets. -/
import Derived.Test.YtlkfbblapimhoaaGreatDoorVH
namespace Go.Proofs.YtlkfbblapimhoaaGreatDoor
set_option linter.unusedSectionVars false
set_option linter.unusedSimpArgs false
set_option linter.unusedVariables false
set_option maxRecDepth 100000
noncomputable def longC (x:Cnd):Bool:=ilt 50 (Int.ofNat x.cn.length)
noncomputable def slightB (r:Rule):Bool:=ile (IntKind.wrap .i64 ((Int.ofNat r.rn.length)+(Int.ofNat r.rl.length))) 100&&(ile (Int.ofNat r.rw.length) 25 && !(List.any r.rw longC))
noncomputable def fatR (r:Rule):Bool := !(slightB r)
noncomputable def smallB (l:List Rule):Bool:=bif (ilt 20 (Int.ofNat l.length)&&ile (Int.ofNat l.length) 60)||ilt 65 (Int.ofNat l.length) then false else !(List.any l fatR)
noncomputable def fewB (n:Net):Bool:=ile (Int.ofNat n.nds.length) 30&&ile (Int.ofNat n.lks.length) 40
noncomputable def failsM (m:List ((List UInt8)×Int)) (x:Cnd):Bool:=(ile x.cl (mgetD kq_str m x.cn d_int)) == x.cb
noncomputable def distB (ns:List (List UInt8)):Bool:=allI (fun i x => !(List.elem x (ns.take i))) 0 ns
noncomputable def outV1 (v:List Int):R:=some (.ful 0,[(0,.rows .int v)])
namespace sl1
noncomputable def bd:Code:=(Tryz.f64.body).getD .skip
noncomputable def X:Ctx U El:=⟨E,tds,zeros,eqs,specOf [],100000,7,dspecOf [],fun _=>none⟩
noncomputable def nmR:Norm U:=⟨[],[2],[],[],[],[],[]⟩
noncomputable def RR:Kont U El:=fun st=>normK nmR st (retFin [2] [])
noncomputable def fr0 (x:Cnd):St U El:=⟨[(0,(.agg [(.str x.cn),(.bool x.cb),(.int .i64 x.cl)]))],[]⟩
noncomputable def sh0 (x:Cnd):R :=
  some ((.bool (ilt (50:Int) (Int.ofNat (List.length x.cn)))),[])
theorem P0 (x):exec X (cdp [] bd) .d (fr0 x) RR (fun _ _=>none) RR=sh0 x:=by kernel_rfl
noncomputable def f0 (x:Cnd):R:=sh0 x
theorem T0 (x):exec X bd .d (fr0 x) RR (fun _ _=>none) RR=f0 x:=by
  refine (P0 x).trans ?_
  show _=sh0 x
  rfl
theorem run (x):runFn X bd .d nmR [2] [] [(.agg [(.str x.cn),(.bool x.cb),(.int .i64 x.cl)])]=f0 x:=T0 x
theorem f0_eq (x:Cnd):f0 x=outB (longC x):=rfl
theorem ok:CtxOk Tryz.prog X:=ctxOk tab spN dpN
theorem okM:MOk Tryz.prog X:=fun g sp h=>by cases h
theorem spec (x:Cnd):CallSpec Tryz.prog E 64 [(.agg [(.str x.cn),(.bool x.cb),(.int .i64 x.cl)])] (.bool (longC x)) [] :=
  runFn_sound ok okM Tryz.call64 Tryz.func64 (by kernel_rfl) (by kernel_rfl) (by kernel_rfl) (by show 1≤7; decide) (by decide) (by rfl) ((run x).trans (f0_eq x))
noncomputable def sp:Sp U El:=fun args k=>match args with
  | [.agg [.str x_cn,.bool x_cb,.int .i64 x_cl]]=>k (.bool (longC (⟨x_cn,x_cb,x_cl⟩:Cnd))) []
  | _=>none
theorem spOk:SpOk Tryz.prog E 64 sp where
  det:=fun vs=>by
    unfold sp
    split
    · exact ⟨some (_,_),fun _=>rfl⟩
    · exact ⟨none,fun _=>rfl⟩
  ok:=fun vs k r h=>by
    unfold sp at h
    split at h
    · exact ⟨_,_,spec ⟨_,_,_⟩,h⟩
    · cases h
end sl1
namespace sl1X
noncomputable def bd:Code:=(Tryz.f108.body).getD .skip
noncomputable def X:Ctx U El:=⟨E,tds,zeros,eqs,specOf [(64,sl1.sp)],100000,19,dspecOf [],fun _=>none⟩
noncomputable def nmR:Norm U:=⟨[],[4],[],[],[],[],[]⟩
noncomputable def RR:Kont U El:=fun st=>normK nmR st (retFin [4] [])
noncomputable def nm1:Norm U:=⟨[],[],[],[],[],[],[]⟩
noncomputable def nm2:Norm U:=⟨[],[0,1,7,8],[],[],[],[],[]⟩
abbrev Y1:=R
abbrev Y2:=(List Cnd)→Int→Int→R
noncomputable def fr0 (l:List Cnd):St U El:=⟨[(0,(.lst .cnd l)),(1,(.fn 64 [] []))],[]⟩
noncomputable def fr1:St U El:=⟨[],[]⟩
noncomputable def fr2 (s0:List Cnd) (x7:Int) (x8:Int):St U El:=⟨[(0,(.lst .cnd s0)),(1,(.fn 64 [] [])),(7,(.int .i64 x7)),(8,(.int .i64 x8))],[]⟩
noncomputable def sh0 (l:List Cnd) (k2:Y2):R :=
  k2 l (Int.ofNat (List.length l)) (0:Int)
noncomputable def sh1:R :=
  some ((.int .i64 (-1:Int)),[])
noncomputable def sh2 (s0:List Cnd) (x7:Int) (x8:Int) (k1:Y1) (k2:Y2):R :=
  condB (ilt x8 x7) (chk (inb x8 (List.length s0)) (condB (longC (List.getD s0 (Int.toNat x8) d_cnd)) (some ((.int .i64 x8),[])) (k2 s0 x7 (IntKind.wrap .i64 (x8+(1:Int)))))) (k1)
noncomputable def it2 (Kb1:Kont U El) (n:Nat):Kont U El:=iter nm2 (fun st' K'=>exec X (cdp [1,0,1,0,0] bd) .d st' K' (Eblk 0 (cutK nm1 Kb1) (fun _ _=>none)) RR) n
noncomputable def ct1:Kont U El:=fun st=>exec X (cdp [1,1] bd) .d st RR (fun _ _=>none) RR
theorem P0 (l):exec X (cdp [] bd) (.seq none .d (.seq (some nm1) (.seq none .d (.block (.loop nm2 .d))) .d)) (fr0 l) RR (fun _ _=>none) RR=sh0 l (fun y0 y1 y2=>(hid (it2 (hid ct1) 100000)) (fr2 y0 y1 y2)):=by kernel_rfl
theorem P1:ct1 (fr1)=sh1:=by kernel_rfl
theorem P2 (s0 x7 x8) (Kb1 Kb2:Kont U El):exec X (cdp [1,0,1,0,0] bd) .d (fr2 s0 x7 x8) (cutK nm2 Kb2) (Eblk 0 (cutK nm1 Kb1) (fun _ _=>none)) RR=sh2 s0 x7 x8 (Kb1 (fr1)) (fun y0 y1 y2=>Kb2 (fr2 y0 y1 y2)):=by kernel_rfl
noncomputable def f1:R:=sh1
noncomputable def f2:Nat→Y2
  | 0=>fun _ _ _=>none
  | n+1=>fun s0 x7 x8=>sh2 s0 x7 x8 f1 (f2 n)
noncomputable def f0 (l:List Cnd):R:=sh0 l (f2 100000)
theorem T1:(hid ct1) (fr1)=f1:=by
  refine (congrFun (hid_eq _) _).trans <| (P1).trans ?_
  show _=sh1
  rfl
theorem T2:∀ (n:Nat),∀ s0 x7 x8,it2 (hid ct1) n (fr2 s0 x7 x8)=f2 n s0 x7 x8:=by
  intro n
  induction n with
  | zero=>intros; rfl
  | succ n ih =>
    intro s0 x7 x8
    refine (P2 s0 x7 x8 (hid ct1) (it2 (hid ct1) n)).trans ?_
    show _=sh2 s0 x7 x8 f1 (f2 n)
    simp only [T1,ih]
theorem H2 (s0 x7 x8):hid (it2 (hid ct1) 100000) (fr2 s0 x7 x8)=f2 100000 s0 x7 x8:=(congrFun (hid_eq _) _).trans (T2 100000 s0 x7 x8)
theorem T0 (l):exec X bd (.seq none .d (.seq (some nm1) (.seq none .d (.block (.loop nm2 .d))) .d)) (fr0 l) RR (fun _ _=>none) RR=f0 l:=by
  refine (P0 l).trans ?_
  show _=sh0 l (f2 100000)
  simp only [H2]
theorem run (l):runFn X bd (.seq none .d (.seq (some nm1) (.seq none .d (.block (.loop nm2 .d))) .d)) nmR [4] [] [(.lst .cnd l),(.fn 64 [] [])]=f0 l:=T0 l
theorem f0_eq (l:List Cnd) (h:(nle (List.length l) 90000)=true):f0 l=outI (findZ longC 0 l):=by
  have hl:=nleI h
  refine (grun_eq l (by omega) (fun n_ (_:Unit) i_=>f2 n_ l (Int.ofNat l.length) i_) _ (fun _=>outI (-1)) (fun n_ u_ i_ hi_ => ?_) (fun n_ u_ => ?_) 100000 0 () (by omega) (by omega)).trans (grun_find longC outI l 0)
  · show sh2 l (Int.ofNat l.length) i_ f1 (f2 n_) = _
    unfold sh2
    rw [iltT (by simp; omega),inbT hi_,toNat_nat,getD_lt hi_]
    rfl
  · show sh2 l (Int.ofNat l.length) (l.length : Int) f1 (f2 n_) = _
    unfold sh2
    rw [iltF (by simp)]
    rfl
theorem ok:CtxOk Tryz.prog X:=ctxOk tab (spC sl1.spOk spN) dpN
theorem okM:MOk Tryz.prog X:=fun g sp h=>by cases h
theorem spec (l:List Cnd) (h:(nle (List.length l) 90000)=true):CallSpec Tryz.prog E 108 [(.lst .cnd l),(.fn 64 [] [])] (.int .i64 (findZ longC 0 l)) [] :=
  runFn_sound ok okM Tryz.call108 Tryz.func108 (by kernel_rfl) (by kernel_rfl) (by kernel_rfl) (by show 2≤19; decide) (by decide) (by rfl) ((run l).trans (f0_eq l h))
noncomputable def sp:Sp U El:=fun args k=>match args with
  | [.lst .cnd l,.fn 64 [] []]=>chk (nle (List.length l) 90000) (k (.int .i64 (findZ longC 0 l)) [])
  | _=>none
theorem spOk:SpOk Tryz.prog E 108 sp where
  det:=fun vs=>by
    unfold sp
    split
    · exact det_c _ _ _
    · exact ⟨none,fun _=>rfl⟩
  ok:=fun vs k r h=>by
    unfold sp at h
    split at h
    · obtain ⟨h1, h2⟩ := chk_some h
      exact ⟨_,_,spec _ h1,h2⟩
    · cases h
end sl1X
namespace sl1C
noncomputable def bd:Code:=(Tryz.f63.body).getD .skip
noncomputable def X:Ctx U El:=⟨E,tds,zeros,eqs,specOf [(108,sl1X.sp)],100000,9,dspecOf [],fun _=>none⟩
noncomputable def nmR:Norm U:=⟨[],[4],[],[],[],[],[]⟩
noncomputable def RR:Kont U El:=fun st=>normK nmR st (retFin [4] [])
noncomputable def fr0 (l:List Cnd):St U El:=⟨[(0,(.lst .cnd l)),(1,(.fn 64 [] []))],[]⟩
noncomputable def sh0 (l:List Cnd):R :=
  chk (nle (List.length l) 90000) (some ((.bool (ile (0:Int) (findZ longC 0 l))),[]))
theorem P0 (l):exec X (cdp [] bd) .d (fr0 l) RR (fun _ _=>none) RR=sh0 l:=by kernel_rfl
noncomputable def f0 (l:List Cnd):R:=sh0 l
theorem T0 (l):exec X bd .d (fr0 l) RR (fun _ _=>none) RR=f0 l:=by
  refine (P0 l).trans ?_
  show _=sh0 l
  rfl
theorem run (l):runFn X bd .d nmR [4] [] [(.lst .cnd l),(.fn 64 [] [])]=f0 l:=T0 l
theorem f0_eq (l:List Cnd) (h:(nle (List.length l) 90000)=true):f0 l=outB (List.any l longC):=by
  show chk _ (outB _)=_
  rw [h,chkT,findZ_any]
theorem ok:CtxOk Tryz.prog X:=ctxOk tab (spC sl1X.spOk spN) dpN
theorem okM:MOk Tryz.prog X:=fun g sp h=>by cases h
theorem spec (l:List Cnd) (h:(nle (List.length l) 90000)=true):CallSpec Tryz.prog E 63 [(.lst .cnd l),(.fn 64 [] [])] (.bool (List.any l longC)) [] :=
  runFn_sound ok okM Tryz.call63 Tryz.func63 (by kernel_rfl) (by kernel_rfl) (by kernel_rfl) (by show 2≤9; decide) (by decide) (by rfl) ((run l).trans (f0_eq l h))
noncomputable def sp:Sp U El:=fun args k=>match args with
  | [.lst .cnd l,.fn 64 [] []]=>chk (nle (List.length l) 90000) (k (.bool (List.any l longC)) [])
  | _=>none
theorem spOk:SpOk Tryz.prog E 63 sp where
  det:=fun vs=>by
    unfold sp
    split
    · exact det_c _ _ _
    · exact ⟨none,fun _=>rfl⟩
  ok:=fun vs k r h=>by
    unfold sp at h
    split at h
    · obtain ⟨h1, h2⟩ := chk_some h
      exact ⟨_,_,spec _ h1,h2⟩
    · cases h
end sl1C
namespace slight
noncomputable def bd:Code:=(Tryz.f21.body).getD .skip
noncomputable def X:Ctx U El:=⟨E,tds,zeros,eqs,specOf [(63,sl1C.sp)],100000,23,dspecOf [],fun _=>none⟩
noncomputable def nmR:Norm U:=⟨[],[2],[],[],[],[],[]⟩
noncomputable def RR:Kont U El:=fun st=>normK nmR st (retFin [2] [])
noncomputable def fr0 (r:Rule):St U El:=⟨[(0,(.agg [(.str r.rn),(.lst .cnd r.rw),(.str r.rl),(.int .i64 r.rs)]))],[]⟩
noncomputable def sh0 (r:Rule):R :=
  condB (ile (IntKind.wrap .i64 ((Int.ofNat (List.length r.rn))+(Int.ofNat (List.length r.rl)))) (100:Int)) (condB (ile (Int.ofNat (List.length r.rw)) (25:Int)) (chk (nle (List.length r.rw) 90000) (some ((.bool (!(List.any r.rw longC))),[]))) (some ((.bool false),[]))) (some ((.bool false),[]))
theorem P0 (r):exec X (cdp [] bd) .d (fr0 r) RR (fun _ _=>none) RR=sh0 r:=by kernel_rfl
noncomputable def f0 (r:Rule):R:=sh0 r
theorem T0 (r):exec X bd .d (fr0 r) RR (fun _ _=>none) RR=f0 r:=by
  refine (P0 r).trans ?_
  show _=sh0 r
  rfl
theorem run (r):runFn X bd .d nmR [2] [] [(.agg [(.str r.rn),(.lst .cnd r.rw),(.str r.rl),(.int .i64 r.rs)])]=f0 r:=T0 r
theorem f0_eq (r:Rule):f0 r=outB (slightB r):=by
  show sh0 r=_
  unfold sh0 slightB
  by_cases h:Int.ofNat r.rw.length≤(25:Int)
  · rw [show ile (Int.ofNat r.rw.length) 25 = true from ileT h, nleT (show r.rw.length ≤ 90000 by simp at h; omega)]
    exact cAnd outB _ _
  · rw [show ile (Int.ofNat r.rw.length) 25 = false from ileF h]
    cases ile _ _<;>rfl
theorem ok:CtxOk Tryz.prog X:=ctxOk tab (spC sl1C.spOk spN) dpN
theorem okM:MOk Tryz.prog X:=fun g sp h=>by cases h
theorem spec (r:Rule):CallSpec Tryz.prog E 21 [(.agg [(.str r.rn),(.lst .cnd r.rw),(.str r.rl),(.int .i64 r.rs)])] (.bool (slightB r)) [] :=
  runFn_sound ok okM Tryz.call21 Tryz.func21 (by kernel_rfl) (by kernel_rfl) (by kernel_rfl) (by show 1≤23; decide) (by decide) (by rfl) ((run r).trans (f0_eq r))
noncomputable def sp:Sp U El:=fun args k=>match args with
  | [.agg [.str r_rn,.lst .cnd r_rw,.str r_rl,.int .i64 r_rs]]=>k (.bool (slightB (⟨r_rn,r_rw,r_rl,r_rs⟩:Rule))) []
  | _=>none
theorem spOk:SpOk Tryz.prog E 21 sp where
  det:=fun vs=>by
    unfold sp
    split
    · exact ⟨some (_,_),fun _=>rfl⟩
    · exact ⟨none,fun _=>rfl⟩
  ok:=fun vs k r h=>by
    unfold sp at h
    split at h
    · exact ⟨_,_,spec ⟨_,_,_,_⟩,h⟩
    · cases h
end slight
namespace sm1
noncomputable def bd:Code:=(Tryz.f37.body).getD .skip
noncomputable def X:Ctx U El:=⟨E,tds,zeros,eqs,specOf [(21,slight.sp)],100000,6,dspecOf [],fun _=>none⟩
noncomputable def nmR:Norm U:=⟨[],[2],[],[],[],[],[]⟩
noncomputable def RR:Kont U El:=fun st=>normK nmR st (retFin [2] [])
noncomputable def fr0 (x:Rule):St U El:=⟨[(0,(.agg [(.str x.rn),(.lst .cnd x.rw),(.str x.rl),(.int .i64 x.rs)]))],[]⟩
noncomputable def sh0 (x:Rule):R :=
  some ((.bool (!(slightB x))),[])
theorem P0 (x):exec X (cdp [] bd) .d (fr0 x) RR (fun _ _=>none) RR=sh0 x:=by kernel_rfl
noncomputable def f0 (x:Rule):R:=sh0 x
theorem T0 (x):exec X bd .d (fr0 x) RR (fun _ _=>none) RR=f0 x:=by
  refine (P0 x).trans ?_
  show _=sh0 x
  rfl
theorem run (x):runFn X bd .d nmR [2] [] [(.agg [(.str x.rn),(.lst .cnd x.rw),(.str x.rl),(.int .i64 x.rs)])]=f0 x:=T0 x
theorem f0_eq (x:Rule):f0 x=outB (fatR x):=rfl
theorem ok:CtxOk Tryz.prog X:=ctxOk tab (spC slight.spOk spN) dpN
theorem okM:MOk Tryz.prog X:=fun g sp h=>by cases h
theorem spec (x:Rule):CallSpec Tryz.prog E 37 [(.agg [(.str x.rn),(.lst .cnd x.rw),(.str x.rl),(.int .i64 x.rs)])] (.bool (fatR x)) [] :=
  runFn_sound ok okM Tryz.call37 Tryz.func37 (by kernel_rfl) (by kernel_rfl) (by kernel_rfl) (by show 1≤6; decide) (by decide) (by rfl) ((run x).trans (f0_eq x))
noncomputable def sp:Sp U El:=fun args k=>match args with
  | [.agg [.str x_rn,.lst .cnd x_rw,.str x_rl,.int .i64 x_rs]]=>k (.bool (fatR (⟨x_rn,x_rw,x_rl,x_rs⟩:Rule))) []
  | _=>none
theorem spOk:SpOk Tryz.prog E 37 sp where
  det:=fun vs=>by
    unfold sp
    split
    · exact ⟨some (_,_),fun _=>rfl⟩
    · exact ⟨none,fun _=>rfl⟩
  ok:=fun vs k r h=>by
    unfold sp at h
    split at h
    · exact ⟨_,_,spec ⟨_,_,_,_⟩,h⟩
    · cases h
end sm1
namespace sm1X
noncomputable def bd:Code:=(Tryz.f76.body).getD .skip
noncomputable def X:Ctx U El:=⟨E,tds,zeros,eqs,specOf [(37,sm1.sp)],100000,19,dspecOf [],fun _=>none⟩
noncomputable def nmR:Norm U:=⟨[],[4],[],[],[],[],[]⟩
noncomputable def RR:Kont U El:=fun st=>normK nmR st (retFin [4] [])
noncomputable def nm1:Norm U:=⟨[],[],[],[],[],[],[]⟩
noncomputable def nm2:Norm U:=⟨[],[0,1,7,8],[],[],[],[],[]⟩
abbrev Y1:=R
abbrev Y2:=(List Rule)→Int→Int→R
noncomputable def fr0 (l:List Rule):St U El:=⟨[(0,(.lst .rule l)),(1,(.fn 37 [] []))],[]⟩
noncomputable def fr1:St U El:=⟨[],[]⟩
noncomputable def fr2 (s0:List Rule) (x7:Int) (x8:Int):St U El:=⟨[(0,(.lst .rule s0)),(1,(.fn 37 [] [])),(7,(.int .i64 x7)),(8,(.int .i64 x8))],[]⟩
noncomputable def sh0 (l:List Rule) (k2:Y2):R :=
  k2 l (Int.ofNat (List.length l)) (0:Int)
noncomputable def sh1:R :=
  some ((.int .i64 (-1:Int)),[])
noncomputable def sh2 (s0:List Rule) (x7:Int) (x8:Int) (k1:Y1) (k2:Y2):R :=
  condB (ilt x8 x7) (chk (inb x8 (List.length s0)) (condB (fatR (List.getD s0 (Int.toNat x8) d_rule)) (some ((.int .i64 x8),[])) (k2 s0 x7 (IntKind.wrap .i64 (x8+(1:Int)))))) (k1)
noncomputable def it2 (Kb1:Kont U El) (n:Nat):Kont U El:=iter nm2 (fun st' K'=>exec X (cdp [1,0,1,0,0] bd) .d st' K' (Eblk 0 (cutK nm1 Kb1) (fun _ _=>none)) RR) n
noncomputable def ct1:Kont U El:=fun st=>exec X (cdp [1,1] bd) .d st RR (fun _ _=>none) RR
theorem P0 (l):exec X (cdp [] bd) (.seq none .d (.seq (some nm1) (.seq none .d (.block (.loop nm2 .d))) .d)) (fr0 l) RR (fun _ _=>none) RR=sh0 l (fun y0 y1 y2=>(hid (it2 (hid ct1) 100000)) (fr2 y0 y1 y2)):=by kernel_rfl
theorem P1:ct1 (fr1)=sh1:=by kernel_rfl
theorem P2 (s0 x7 x8) (Kb1 Kb2:Kont U El):exec X (cdp [1,0,1,0,0] bd) .d (fr2 s0 x7 x8) (cutK nm2 Kb2) (Eblk 0 (cutK nm1 Kb1) (fun _ _=>none)) RR=sh2 s0 x7 x8 (Kb1 (fr1)) (fun y0 y1 y2=>Kb2 (fr2 y0 y1 y2)):=by kernel_rfl
noncomputable def f1:R:=sh1
noncomputable def f2:Nat→Y2
  | 0=>fun _ _ _=>none
  | n+1=>fun s0 x7 x8=>sh2 s0 x7 x8 f1 (f2 n)
noncomputable def f0 (l:List Rule):R:=sh0 l (f2 100000)
theorem T1:(hid ct1) (fr1)=f1:=by
  refine (congrFun (hid_eq _) _).trans <| (P1).trans ?_
  show _=sh1
  rfl
theorem T2:∀ (n:Nat),∀ s0 x7 x8,it2 (hid ct1) n (fr2 s0 x7 x8)=f2 n s0 x7 x8:=by
  intro n
  induction n with
  | zero=>intros; rfl
  | succ n ih =>
    intro s0 x7 x8
    refine (P2 s0 x7 x8 (hid ct1) (it2 (hid ct1) n)).trans ?_
    show _=sh2 s0 x7 x8 f1 (f2 n)
    simp only [T1,ih]
theorem H2 (s0 x7 x8):hid (it2 (hid ct1) 100000) (fr2 s0 x7 x8)=f2 100000 s0 x7 x8:=(congrFun (hid_eq _) _).trans (T2 100000 s0 x7 x8)
theorem T0 (l):exec X bd (.seq none .d (.seq (some nm1) (.seq none .d (.block (.loop nm2 .d))) .d)) (fr0 l) RR (fun _ _=>none) RR=f0 l:=by
  refine (P0 l).trans ?_
  show _=sh0 l (f2 100000)
  simp only [H2]
theorem run (l):runFn X bd (.seq none .d (.seq (some nm1) (.seq none .d (.block (.loop nm2 .d))) .d)) nmR [4] [] [(.lst .rule l),(.fn 37 [] [])]=f0 l:=T0 l
theorem f0_eq (l:List Rule) (h:(nle (List.length l) 90000)=true):f0 l=outI (findZ fatR 0 l):=by
  have hl:=nleI h
  refine (grun_eq l (by omega) (fun n_ (_:Unit) i_=>f2 n_ l (Int.ofNat l.length) i_) _ (fun _=>outI (-1)) (fun n_ u_ i_ hi_ => ?_) (fun n_ u_ => ?_) 100000 0 () (by omega) (by omega)).trans (grun_find fatR outI l 0)
  · show sh2 l (Int.ofNat l.length) i_ f1 (f2 n_) = _
    unfold sh2
    rw [iltT (by simp; omega),inbT hi_,toNat_nat,getD_lt hi_]
    rfl
  · show sh2 l (Int.ofNat l.length) (l.length : Int) f1 (f2 n_) = _
    unfold sh2
    rw [iltF (by simp)]
    rfl
theorem ok:CtxOk Tryz.prog X:=ctxOk tab (spC sm1.spOk spN) dpN
theorem okM:MOk Tryz.prog X:=fun g sp h=>by cases h
theorem spec (l:List Rule) (h:(nle (List.length l) 90000)=true):CallSpec Tryz.prog E 76 [(.lst .rule l),(.fn 37 [] [])] (.int .i64 (findZ fatR 0 l)) [] :=
  runFn_sound ok okM Tryz.call76 Tryz.func76 (by kernel_rfl) (by kernel_rfl) (by kernel_rfl) (by show 2≤19; decide) (by decide) (by rfl) ((run l).trans (f0_eq l h))
noncomputable def sp:Sp U El:=fun args k=>match args with
  | [.lst .rule l,.fn 37 [] []]=>chk (nle (List.length l) 90000) (k (.int .i64 (findZ fatR 0 l)) [])
  | _=>none
theorem spOk:SpOk Tryz.prog E 76 sp where
  det:=fun vs=>by
    unfold sp
    split
    · exact det_c _ _ _
    · exact ⟨none,fun _=>rfl⟩
  ok:=fun vs k r h=>by
    unfold sp at h
    split at h
    · obtain ⟨h1, h2⟩ := chk_some h
      exact ⟨_,_,spec _ h1,h2⟩
    · cases h
end sm1X
namespace sm1C
noncomputable def bd:Code:=(Tryz.f36.body).getD .skip
noncomputable def X:Ctx U El:=⟨E,tds,zeros,eqs,specOf [(76,sm1X.sp)],100000,9,dspecOf [],fun _=>none⟩
noncomputable def nmR:Norm U:=⟨[],[4],[],[],[],[],[]⟩
noncomputable def RR:Kont U El:=fun st=>normK nmR st (retFin [4] [])
noncomputable def fr0 (l:List Rule):St U El:=⟨[(0,(.lst .rule l)),(1,(.fn 37 [] []))],[]⟩
noncomputable def sh0 (l:List Rule):R :=
  chk (nle (List.length l) 90000) (some ((.bool (ile (0:Int) (findZ fatR 0 l))),[]))
theorem P0 (l):exec X (cdp [] bd) .d (fr0 l) RR (fun _ _=>none) RR=sh0 l:=by kernel_rfl
noncomputable def f0 (l:List Rule):R:=sh0 l
theorem T0 (l):exec X bd .d (fr0 l) RR (fun _ _=>none) RR=f0 l:=by
  refine (P0 l).trans ?_
  show _=sh0 l
  rfl
theorem run (l):runFn X bd .d nmR [4] [] [(.lst .rule l),(.fn 37 [] [])]=f0 l:=T0 l
theorem f0_eq (l:List Rule) (h:(nle (List.length l) 90000)=true):f0 l=outB (List.any l fatR):=by
  show chk _ (outB _)=_
  rw [h,chkT,findZ_any]
theorem ok:CtxOk Tryz.prog X:=ctxOk tab (spC sm1X.spOk spN) dpN
theorem okM:MOk Tryz.prog X:=fun g sp h=>by cases h
theorem spec (l:List Rule) (h:(nle (List.length l) 90000)=true):CallSpec Tryz.prog E 36 [(.lst .rule l),(.fn 37 [] [])] (.bool (List.any l fatR)) [] :=
  runFn_sound ok okM Tryz.call36 Tryz.func36 (by kernel_rfl) (by kernel_rfl) (by kernel_rfl) (by show 2≤9; decide) (by decide) (by rfl) ((run l).trans (f0_eq l h))
noncomputable def sp:Sp U El:=fun args k=>match args with
  | [.lst .rule l,.fn 37 [] []]=>chk (nle (List.length l) 90000) (k (.bool (List.any l fatR)) [])
  | _=>none
theorem spOk:SpOk Tryz.prog E 36 sp where
  det:=fun vs=>by
    unfold sp
    split
    · exact det_c _ _ _
    · exact ⟨none,fun _=>rfl⟩
  ok:=fun vs k r h=>by
    unfold sp at h
    split at h
    · obtain ⟨h1, h2⟩ := chk_some h
      exact ⟨_,_,spec _ h1,h2⟩
    · cases h
end sm1C
namespace small
noncomputable def bd:Code:=(Tryz.f8.body).getD .skip
noncomputable def X:Ctx U El:=⟨E,tds,zeros,eqs,specOf [(36,sm1C.sp)],100000,19,dspecOf [],fun _=>none⟩
noncomputable def nmR:Norm U:=⟨[],[2],[],[],[],[],[]⟩
noncomputable def RR:Kont U El:=fun st=>normK nmR st (retFin [2] [])
noncomputable def nm1:Norm U:=⟨[],[0],[],[],[],[],[]⟩
abbrev Y1:=(List Rule)→R
noncomputable def fr0 (l:List Rule):St U El:=⟨[(0,(.lst .rule l))],[]⟩
noncomputable def fr1 (l0:List Rule):St U El:=⟨[(0,(.lst .rule l0))],[]⟩
noncomputable def sh0 (l:List Rule) (k1:Y1):R :=
  condB (ilt (20:Int) (Int.ofNat (List.length l))) (condB (ile (Int.ofNat (List.length l)) (60:Int)) (some ((.bool false),[])) (condB (ilt (65:Int) (Int.ofNat (List.length l))) (some ((.bool false),[])) (k1 l))) (condB (ilt (65:Int) (Int.ofNat (List.length l))) (some ((.bool false),[])) (k1 l))
noncomputable def sh1 (l0:List Rule):R :=
  chk (nle (List.length l0) 90000) (some ((.bool (!(List.any l0 fatR))),[]))
noncomputable def ct1:Kont U El:=fun st=>exec X (cdp [1,1] bd) .d st RR (fun _ _=>none) RR
theorem P0 (l):exec X (cdp [] bd) (.seq none .d (.seq (some nm1) .d .d)) (fr0 l) RR (fun _ _=>none) RR=sh0 l (fun y0=>(hid ct1) (fr1 y0)):=by kernel_rfl
theorem P1 (l0):ct1 (fr1 l0)=sh1 l0:=by kernel_rfl
noncomputable def f1 (l0:List Rule):R:=sh1 l0
noncomputable def f0 (l:List Rule):R:=sh0 l f1
theorem T1 (l0):(hid ct1) (fr1 l0)=f1 l0:=by
  refine (congrFun (hid_eq _) _).trans <| (P1 l0).trans ?_
  show _=sh1 l0
  rfl
theorem T0 (l):exec X bd (.seq none .d (.seq (some nm1) .d .d)) (fr0 l) RR (fun _ _=>none) RR=f0 l:=by
  refine (P0 l).trans ?_
  show _=sh0 l f1
  simp only [T1]
theorem run (l):runFn X bd (.seq none .d (.seq (some nm1) .d .d)) nmR [2] [] [(.lst .rule l)]=f0 l:=T0 l
theorem f0_eq (l:List Rule):f0 l=outB (smallB l):=by
  show sh0 l f1=_
  unfold sh0 smallB
  have e:f1 l=chk (nle (List.length l) 90000) (outB (!(List.any l fatR))):=rfl
  by_cases h:(65:Int) < Int.ofNat l.length
  · rw [show ilt 65 (Int.ofNat l.length) = true from iltT h]
    cases ilt 20 (Int.ofNat l.length)<;>cases ile (Int.ofNat l.length) 60<;>rfl
  · rw [show ilt 65 (Int.ofNat l.length) = false from iltF h, e, nleT (show l.length ≤ 90000 by simp at h; omega)]
    cases ilt 20 (Int.ofNat l.length)<;>cases ile (Int.ofNat l.length) 60<;>rfl
theorem ok:CtxOk Tryz.prog X:=ctxOk tab (spC sm1C.spOk spN) dpN
theorem okM:MOk Tryz.prog X:=fun g sp h=>by cases h
theorem spec (l:List Rule):CallSpec Tryz.prog E 8 [(.lst .rule l)] (.bool (smallB l)) [] :=
  runFn_sound ok okM Tryz.call8 Tryz.func8 (by kernel_rfl) (by kernel_rfl) (by kernel_rfl) (by show 1≤19; decide) (by decide) (by rfl) ((run l).trans (f0_eq l))
noncomputable def sp:Sp U El:=fun args k=>match args with
  | [.lst .rule l]=>k (.bool (smallB l)) []
  | _=>none
theorem spOk:SpOk Tryz.prog E 8 sp where
  det:=fun vs=>by
    unfold sp
    split
    · exact ⟨some (_,_),fun _=>rfl⟩
    · exact ⟨none,fun _=>rfl⟩
  ok:=fun vs k r h=>by
    unfold sp at h
    split at h
    · exact ⟨_,_,spec _,h⟩
    · cases h
end small
namespace few
noncomputable def bd:Code:=(Tryz.f16.body).getD .skip
noncomputable def X:Ctx U El:=⟨E,tds,zeros,eqs,specOf [],100000,13,dspecOf [],fun _=>none⟩
noncomputable def nmR:Norm U:=⟨[],[2],[],[],[],[],[]⟩
noncomputable def RR:Kont U El:=fun st=>normK nmR st (retFin [2] [])
noncomputable def fr0 (n:Net):St U El:=⟨[(0,(.agg [(.lst .node n.nds),(.lst .link n.lks)]))],[]⟩
noncomputable def sh0 (n:Net):R :=
  condB (ile (Int.ofNat (List.length n.nds)) (30:Int)) (some ((.bool (ile (Int.ofNat (List.length n.lks)) (40:Int))),[])) (some ((.bool false),[]))
theorem P0 (n):exec X (cdp [] bd) .d (fr0 n) RR (fun _ _=>none) RR=sh0 n:=by kernel_rfl
noncomputable def f0 (n:Net):R:=sh0 n
theorem T0 (n):exec X bd .d (fr0 n) RR (fun _ _=>none) RR=f0 n:=by
  refine (P0 n).trans ?_
  show _=sh0 n
  rfl
theorem run (n):runFn X bd .d nmR [2] [] [(.agg [(.lst .node n.nds),(.lst .link n.lks)])]=f0 n:=T0 n
theorem f0_eq (n:Net):f0 n=outB (fewB n):=cAnd outB _ _
theorem ok:CtxOk Tryz.prog X:=ctxOk tab spN dpN
theorem okM:MOk Tryz.prog X:=fun g sp h=>by cases h
theorem spec (n:Net):CallSpec Tryz.prog E 16 [(.agg [(.lst .node n.nds),(.lst .link n.lks)])] (.bool (fewB n)) [] :=
  runFn_sound ok okM Tryz.call16 Tryz.func16 (by kernel_rfl) (by kernel_rfl) (by kernel_rfl) (by show 1≤13; decide) (by decide) (by rfl) ((run n).trans (f0_eq n))
noncomputable def sp:Sp U El:=fun args k=>match args with
  | [.agg [.lst .node n_nds,.lst .link n_lks]]=>k (.bool (fewB (⟨n_nds,n_lks⟩:Net))) []
  | _=>none
theorem spOk:SpOk Tryz.prog E 16 sp where
  det:=fun vs=>by
    unfold sp
    split
    · exact ⟨some (_,_),fun _=>rfl⟩
    · exact ⟨none,fun _=>rfl⟩
  ok:=fun vs k r h=>by
    unfold sp at h
    split at h
    · exact ⟨_,_,spec ⟨_,_⟩,h⟩
    · cases h
end few
noncomputable def eqL {α:Type} (q:α→α→Bool):List α→List α→Bool
  | [],[]=>true
  | x :: a,y :: b=>q x y&&eqL q a b
  | _,_=>false
noncomputable def eqLen {α:Type} (q:α→α→Bool) (a b:List α):Bool:=bif (Int.ofNat a.length) != (Int.ofNat b.length) then false else eqL q a b
noncomputable def eqI (a b:List Int):Bool:=eqLen (fun x y=>x == y) a b
theorem eqL_self {α:Type} {q:α→α→Bool} (hq:∀ x,q x x=true):∀ a,eqL q a a=true:=by
  intro a
  induction a with
  | nil=>rfl
  | cons x a ih=>simp [eqL,hq,ih]
theorem eqLen_self {α:Type} {q:α→α→Bool} (hq:∀ x,q x x=true) (a:List α):eqLen q a a=true:=by
  unfold eqLen; rw [eqL_self hq]; simp
theorem eqI_self (a:List Int):eqI a a=true:=eqLen_self (by simp) a
theorem bneF {a b:Nat} (h:a=b):(Int.ofNat a != Int.ofNat b)=false:=by subst h; simp
theorem bneT {a b:Nat} (h:a≠b):(Int.ofNat a != Int.ofNat b)=true:=by simp; omega
namespace equalI
noncomputable def bd:Code:=(Tryz.f20.body).getD .skip
noncomputable def X:Ctx U El:=⟨E,tds,zeros,eqs,specOf [],100000,26,dspecOf [],fun _=>none⟩
noncomputable def nmR:Norm U:=⟨[],[4],[],[],[],[],[]⟩
noncomputable def RR:Kont U El:=fun st=>normK nmR st (retFin [4] [])
noncomputable def nm1:Norm U:=⟨[],[],[],[],[],[],[]⟩
noncomputable def nm2:Norm U:=⟨[],[0,1,12,13],[],[],[],[],[]⟩
abbrev Y1:=R
abbrev Y2:=(List Int)→(List Int)→Int→Int→R
noncomputable def fr0 (a:List Int) (b:List Int):St U El:=⟨[(0,(.lst .int a)),(1,(.lst .int b))],[]⟩
noncomputable def fr1:St U El:=⟨[],[]⟩
noncomputable def fr2 (kB:List Int) (lB:List Int) (oB:Int) (hB:Int):St U El:=⟨[(0,(.lst .int kB)),(1,(.lst .int lB)),(12,(.int .i64 oB)),(13,(.int .i64 hB))],[]⟩
noncomputable def sh0 (a:List Int) (b:List Int) (k2:Y2):R :=
  condB ((Int.ofNat (List.length a)) != (Int.ofNat (List.length b))) (some ((.bool false),[])) (k2 a b (Int.ofNat (List.length a)) (0:Int))
noncomputable def sh1:R :=
  some ((.bool true),[])
noncomputable def sh2 (kB:List Int) (lB:List Int) (oB:Int) (hB:Int) (k1:Y1) (k2:Y2):R :=
  condB (ilt hB oB) (chk (inb hB (List.length kB)) (chk (inb hB (List.length lB)) (condB ((List.getD kB (Int.toNat hB) d_int) != (List.getD lB (Int.toNat hB) d_int)) (some ((.bool false),[])) (k2 kB lB oB (IntKind.wrap .i64 (hB+(1:Int))))))) (k1)
noncomputable def it2 (Kb1:Kont U El) (n:Nat):Kont U El:=iter nm2 (fun st' K'=>exec X (cdp [1,1,0,1,0,0] bd) .d st' K' (Eblk 0 (cutK nm1 Kb1) (fun _ _=>none)) RR) n
noncomputable def ct1:Kont U El:=fun st=>exec X (cdp [1,1,1] bd) .d st RR (fun _ _=>none) RR
theorem P0 (a b):exec X (cdp [] bd) (.seq none .d (.seq none .d (.seq (some nm1) (.seq none .d (.block (.loop nm2 .d))) .d))) (fr0 a b) RR (fun _ _=>none) RR=sh0 a b (fun y0 y1 y2 y3=>(hid (it2 (hid ct1) 100000)) (fr2 y0 y1 y2 y3)):=by kernel_rfl
theorem P1:ct1 (fr1)=sh1:=by kernel_rfl
theorem P2 (kB lB oB hB) (Kb1 Kb2:Kont U El):exec X (cdp [1,1,0,1,0,0] bd) .d (fr2 kB lB oB hB) (cutK nm2 Kb2) (Eblk 0 (cutK nm1 Kb1) (fun _ _=>none)) RR=sh2 kB lB oB hB (Kb1 (fr1)) (fun y0 y1 y2 y3=>Kb2 (fr2 y0 y1 y2 y3)):=by kernel_rfl
noncomputable def f1:R:=sh1
noncomputable def f2:Nat→Y2
  | 0=>fun _ _ _ _=>none
  | n+1=>fun kB lB oB hB=>sh2 kB lB oB hB f1 (f2 n)
noncomputable def f0 (a:List Int) (b:List Int):R:=sh0 a b (f2 100000)
theorem T1:(hid ct1) (fr1)=f1:=by
  refine (congrFun (hid_eq _) _).trans <| (P1).trans ?_
  show _=sh1
  rfl
theorem T2:∀ (n:Nat),∀ kB lB oB hB,it2 (hid ct1) n (fr2 kB lB oB hB)=f2 n kB lB oB hB:=by
  intro n
  induction n with
  | zero=>intros; rfl
  | succ n ih =>
    intro kB lB oB hB
    refine (P2 kB lB oB hB (hid ct1) (it2 (hid ct1) n)).trans ?_
    show _=sh2 kB lB oB hB f1 (f2 n)
    simp only [T1,ih]
theorem H2 (kB lB oB hB):hid (it2 (hid ct1) 100000) (fr2 kB lB oB hB)=f2 100000 kB lB oB hB:=(congrFun (hid_eq _) _).trans (T2 100000 kB lB oB hB)
theorem T0 (a b):exec X bd (.seq none .d (.seq none .d (.seq (some nm1) (.seq none .d (.block (.loop nm2 .d))) .d))) (fr0 a b) RR (fun _ _=>none) RR=f0 a b:=by
  refine (P0 a b).trans ?_
  show _=sh0 a b (f2 100000)
  simp only [H2]
theorem run (a b):runFn X bd (.seq none .d (.seq none .d (.seq (some nm1) (.seq none .d (.block (.loop nm2 .d))) .d))) nmR [4] [] [(.lst .int a),(.lst .int b)]=f0 a b:=T0 a b
theorem loop (b:List Int):∀ (n i:Nat) (a:List Int),a.length=b.length→a.length≤90000→a.length < n+i→i≤a.length→f2 n a b (Int.ofNat a.length) (i:Int)=outB (eqL (fun x y=>x == y) (a.drop i) (b.drop i)):=by
  intro n
  induction n with
  | zero=>intro i a h1 h2 h3 h4; omega
  | succ n ih =>
    intro i a h1 h2 h3 h4
    show sh2 a b (Int.ofNat a.length) (i:Int) f1 (f2 n)=_
    unfold sh2
    by_cases hi:i < a.length
    · have hj : i < b.length := by omega
      rw [iltT (by simp; omega),inbT hi,inbT hj,toNat_nat,getD_lt hi,getD_lt hj,drop_lt hi,drop_lt hj,wrapS i (by omega),ih (i+1) a h1 h2 (by omega) hi]
      simp only [condT,chkT,eqL]
      show condB (!(a[i] == b[i])) (outB false) _=_
      cases a[i] == b[i]<;>rfl
    · have e1 : i = a.length := by omega
      subst e1
      rw [iltF (by simp),List.drop_length,h1,List.drop_length]
      rfl
theorem f0_eq (a b:List Int) (h:nle (List.length a) 90000=true):f0 a b=outB (eqI a b):=by
  show sh0 a b (f2 100000)=_
  unfold sh0 eqI eqLen
  by_cases e:a.length=b.length
  · rw [bneF e]
    exact loop b 100000 0 a e (nleI h) (by have:=nleI h; omega) (by omega)
  · rw [bneT e]
    rfl
theorem ok:CtxOk Tryz.prog X:=ctxOk tab spN dpN
theorem okM:MOk Tryz.prog X:=fun g sp h=>by cases h
theorem spec (a:List Int) (b:List Int) (h:(nle (List.length a) 90000)=true):CallSpec Tryz.prog E 20 [(.lst .int a),(.lst .int b)] (.bool (eqI a b)) [] :=
  runFn_sound ok okM Tryz.call20 Tryz.func20 (by kernel_rfl) (by kernel_rfl) (by kernel_rfl) (by show 2≤26; decide) (by decide) (by rfl) ((run a b).trans (f0_eq a b h))
noncomputable def sp:Sp U El:=fun args k=>match args with
  | [.lst .int a,.lst .int b]=>chk (nle (List.length a) 90000) (k (.bool (eqI a b)) [])
  | _=>none
theorem spOk:SpOk Tryz.prog E 20 sp where
  det:=fun vs=>by
    unfold sp
    split
    · exact det_c _ _ _
    · exact ⟨none,fun _=>rfl⟩
  ok:=fun vs k r h=>by
    unfold sp at h
    split at h
    · obtain ⟨h1, h2⟩ := chk_some h
      exact ⟨_,_,spec _ _ h1,h2⟩
    · cases h
end equalI
theorem kq_eq (a b:List UInt8):kq_str a b=(a == b):=by rw [Bool.eq_iff_iff,kq_str_iff]; simp
theorem mput_new {m:List ((List UInt8)×Int)} {k:List UInt8} {v:Int} (h:mhas kq_str m k=false):mput kq_str m k v=m++[(k,v)]:=by
  induction m with
  | nil=>rfl
  | cons p m ih =>
    unfold mhas at h
    simp only [mfind] at h
    simp only [mput]
    cases e:kq_str k p.1 with
    | true=>rw [e] at h; cases h
    | false =>
      rw [e] at h
      rw [cond_false,ih h]
      rfl
theorem mhas_zip (k:List UInt8):∀ (a:List (List UInt8)) (b:List Int),a.length=b.length→mhas kq_str (List.zip a b) k=List.elem k a:=by
  intro a
  induction a with
  | nil=>intro b _; rfl
  | cons x a ih =>
    intro b h
    cases b with
    | nil=>cases h
    | cons y b =>
      have:=ih b (by simpa using h)
      unfold mhas at this ⊢
      simp only [List.zip_cons_cons,mfind]
      rw [kq_eq,List.elem_cons]
      cases k == x
      · simpa using this
      · rfl
namespace uh1
noncomputable def bd:Code:=(Tryz.f102.body).getD .skip
noncomputable def X:Ctx U El:=⟨E,tds,zeros,eqs,specOf [],100000,14,dspecOf [],fun _=>none⟩
noncomputable def nmR:Norm U:=⟨[],[3],[],[],[],[],[]⟩
noncomputable def RR:Kont U El:=fun st=>normK nmR st (retFin [3] [])
noncomputable def fr0 (x:Cnd) (am:List ((List UInt8)×Int)):St U El:=⟨[(0,(.agg [(.str x.cn),(.bool x.cb),(.int .i64 x.cl)])),(1,(.pcs [(.fmp .str .int am)] 0))],[]⟩
noncomputable def sh0 (x:Cnd) (am:List ((List UInt8)×Int)):R :=
  some ((.bool ((ile x.cl (mgetD kq_str am x.cn d_int)) == x.cb)),[])
theorem P0 (x am):exec X (cdp [] bd) .d (fr0 x am) RR (fun _ _=>none) RR=sh0 x am:=by kernel_rfl
noncomputable def f0 (x:Cnd) (am:List ((List UInt8)×Int)):R:=sh0 x am
theorem T0 (x am):exec X bd .d (fr0 x am) RR (fun _ _=>none) RR=f0 x am:=by
  refine (P0 x am).trans ?_
  show _=sh0 x am
  rfl
theorem run (x am):runFn X bd .d nmR [3] [] [(.agg [(.str x.cn),(.bool x.cb),(.int .i64 x.cl)]),(.pcs [(.fmp .str .int am)] 0)]=f0 x am:=T0 x am
theorem f0_eq (x:Cnd) (m:List ((List UInt8)×Int)):f0 x m=outB (failsM m x):=rfl
theorem ok:CtxOk Tryz.prog X:=ctxOk tab spN dpN
theorem okM:MOk Tryz.prog X:=fun g sp h=>by cases h
theorem spec (x:Cnd) (am:List ((List UInt8)×Int)):CallSpec Tryz.prog E 102 [(.agg [(.str x.cn),(.bool x.cb),(.int .i64 x.cl)]),(.pcs [(.fmp .str .int am)] 0)] (.bool ((failsM am) x)) [] :=
  runFn_sound ok okM Tryz.call102 Tryz.func102 (by kernel_rfl) (by kernel_rfl) (by kernel_rfl) (by show 2≤14; decide) (by decide) (by rfl) ((run x am).trans (f0_eq x am))
noncomputable def sp:Sp U El:=fun args k=>match args with
  | [.agg [.str x_cn,.bool x_cb,.int .i64 x_cl],.pcs [.fmp .str .int am] 0]=>k (.bool ((failsM am) (⟨x_cn,x_cb,x_cl⟩:Cnd))) []
  | _=>none
theorem spOk:SpOk Tryz.prog E 102 sp where
  det:=fun vs=>by
    unfold sp
    split
    · exact ⟨some (_,_),fun _=>rfl⟩
    · exact ⟨none,fun _=>rfl⟩
  ok:=fun vs k r h=>by
    unfold sp at h
    split at h
    · exact ⟨_,_,spec ⟨_,_,_⟩ _,h⟩
    · cases h
end uh1
namespace uh1X
noncomputable def bd:Code:=(Tryz.f108.body).getD .skip
noncomputable def X:Ctx U El:=⟨E,tds,zeros,eqs,specOf [(102,uh1.sp)],100000,19,dspecOf [],fun _=>none⟩
noncomputable def nmR:Norm U:=⟨[],[4],[],[],[],[],[]⟩
noncomputable def RR:Kont U El:=fun st=>normK nmR st (retFin [4] [])
noncomputable def nm1:Norm U:=⟨[],[],[],[],[],[],[]⟩
noncomputable def nm2:Norm U:=⟨[],[0,1,7,8],[],[],[],[],[]⟩
abbrev Y1:=R
abbrev Y2:=(List Cnd)→(List ((List UInt8)×Int))→Int→Int→R
noncomputable def fr0 (l:List Cnd) (am:List ((List UInt8)×Int)):St U El:=⟨[(0,(.lst .cnd l)),(1,(.fn 102 [] [(.pcs [(.fmp .str .int am)] 0)]))],[]⟩
noncomputable def fr1:St U El:=⟨[],[]⟩
noncomputable def fr2 (s0:List Cnd) (f1c_0:List ((List UInt8)×Int)) (x7:Int) (x8:Int):St U El:=⟨[(0,(.lst .cnd s0)),(1,(.fn 102 [] [(.pcs [(.fmp .str .int f1c_0)] 0)])),(7,(.int .i64 x7)),(8,(.int .i64 x8))],[]⟩
noncomputable def sh0 (l:List Cnd) (am:List ((List UInt8)×Int)) (k2:Y2):R :=
  k2 l am (Int.ofNat (List.length l)) (0:Int)
noncomputable def sh1:R :=
  some ((.int .i64 (-1:Int)),[])
noncomputable def sh2 (s0:List Cnd) (f1c_0:List ((List UInt8)×Int)) (x7:Int) (x8:Int) (k1:Y1) (k2:Y2):R :=
  condB (ilt x8 x7) (chk (inb x8 (List.length s0)) (condB ((failsM f1c_0) (List.getD s0 (Int.toNat x8) d_cnd)) (some ((.int .i64 x8),[])) (k2 s0 f1c_0 x7 (IntKind.wrap .i64 (x8+(1:Int)))))) (k1)
noncomputable def it2 (Kb1:Kont U El) (n:Nat):Kont U El:=iter nm2 (fun st' K'=>exec X (cdp [1,0,1,0,0] bd) .d st' K' (Eblk 0 (cutK nm1 Kb1) (fun _ _=>none)) RR) n
noncomputable def ct1:Kont U El:=fun st=>exec X (cdp [1,1] bd) .d st RR (fun _ _=>none) RR
theorem P0 (l am):exec X (cdp [] bd) (.seq none .d (.seq (some nm1) (.seq none .d (.block (.loop nm2 .d))) .d)) (fr0 l am) RR (fun _ _=>none) RR=sh0 l am (fun y0 y1 y2 y3=>(hid (it2 (hid ct1) 100000)) (fr2 y0 y1 y2 y3)):=by kernel_rfl
theorem P1:ct1 (fr1)=sh1:=by kernel_rfl
theorem P2 (s0 f1c_0 x7 x8) (Kb1 Kb2:Kont U El):exec X (cdp [1,0,1,0,0] bd) .d (fr2 s0 f1c_0 x7 x8) (cutK nm2 Kb2) (Eblk 0 (cutK nm1 Kb1) (fun _ _=>none)) RR=sh2 s0 f1c_0 x7 x8 (Kb1 (fr1)) (fun y0 y1 y2 y3=>Kb2 (fr2 y0 y1 y2 y3)):=by kernel_rfl
noncomputable def f1:R:=sh1
noncomputable def f2:Nat→Y2
  | 0=>fun _ _ _ _=>none
  | n+1=>fun s0 f1c_0 x7 x8=>sh2 s0 f1c_0 x7 x8 f1 (f2 n)
noncomputable def f0 (l:List Cnd) (am:List ((List UInt8)×Int)):R:=sh0 l am (f2 100000)
theorem T1:(hid ct1) (fr1)=f1:=by
  refine (congrFun (hid_eq _) _).trans <| (P1).trans ?_
  show _=sh1
  rfl
theorem T2:∀ (n:Nat),∀ s0 f1c_0 x7 x8,it2 (hid ct1) n (fr2 s0 f1c_0 x7 x8)=f2 n s0 f1c_0 x7 x8:=by
  intro n
  induction n with
  | zero=>intros; rfl
  | succ n ih =>
    intro s0 f1c_0 x7 x8
    refine (P2 s0 f1c_0 x7 x8 (hid ct1) (it2 (hid ct1) n)).trans ?_
    show _=sh2 s0 f1c_0 x7 x8 f1 (f2 n)
    simp only [T1,ih]
theorem H2 (s0 f1c_0 x7 x8):hid (it2 (hid ct1) 100000) (fr2 s0 f1c_0 x7 x8)=f2 100000 s0 f1c_0 x7 x8:=(congrFun (hid_eq _) _).trans (T2 100000 s0 f1c_0 x7 x8)
theorem T0 (l am):exec X bd (.seq none .d (.seq (some nm1) (.seq none .d (.block (.loop nm2 .d))) .d)) (fr0 l am) RR (fun _ _=>none) RR=f0 l am:=by
  refine (P0 l am).trans ?_
  show _=sh0 l am (f2 100000)
  simp only [H2]
theorem run (l am):runFn X bd (.seq none .d (.seq (some nm1) (.seq none .d (.block (.loop nm2 .d))) .d)) nmR [4] [] [(.lst .cnd l),(.fn 102 [] [(.pcs [(.fmp .str .int am)] 0)])]=f0 l am:=T0 l am
theorem f0_eq (l:List Cnd) (am:List ((List UInt8)×Int)) (h:(nle (List.length l) 90000)=true):f0 l am=outI (findZ (failsM am) 0 l):=by
  have hl:=nleI h
  refine (grun_eq l (by omega) (fun n_ (_:Unit) i_=>f2 n_ l am (Int.ofNat l.length) i_) _ (fun _=>outI (-1)) (fun n_ u_ i_ hi_ => ?_) (fun n_ u_ => ?_) 100000 0 () (by omega) (by omega)).trans (grun_find (failsM am) outI l 0)
  · show sh2 l am (Int.ofNat l.length) i_ f1 (f2 n_) = _
    unfold sh2
    rw [iltT (by simp; omega),inbT hi_,toNat_nat,getD_lt hi_]
    rfl
  · show sh2 l am (Int.ofNat l.length) (l.length : Int) f1 (f2 n_) = _
    unfold sh2
    rw [iltF (by simp)]
    rfl
theorem ok:CtxOk Tryz.prog X:=ctxOk tab (spC uh1.spOk spN) dpN
theorem okM:MOk Tryz.prog X:=fun g sp h=>by cases h
theorem spec (l:List Cnd) (am:List ((List UInt8)×Int)) (h:(nle (List.length l) 90000)=true):CallSpec Tryz.prog E 108 [(.lst .cnd l),(.fn 102 [] [(.pcs [(.fmp .str .int am)] 0)])] (.int .i64 (findZ (failsM am) 0 l)) [] :=
  runFn_sound ok okM Tryz.call108 Tryz.func108 (by kernel_rfl) (by kernel_rfl) (by kernel_rfl) (by show 2≤19; decide) (by decide) (by rfl) ((run l am).trans (f0_eq l am h))
noncomputable def sp:Sp U El:=fun args k=>match args with
  | [.lst .cnd l,.fn 102 [] [.pcs [.fmp .str .int am] 0]]=>chk (nle (List.length l) 90000) (k (.int .i64 (findZ (failsM am) 0 l)) [])
  | _=>none
theorem spOk:SpOk Tryz.prog E 108 sp where
  det:=fun vs=>by
    unfold sp
    split
    · exact det_c _ _ _
    · exact ⟨none,fun _=>rfl⟩
  ok:=fun vs k r h=>by
    unfold sp at h
    split at h
    · obtain ⟨h1, h2⟩ := chk_some h
      exact ⟨_,_,spec _ _ h1,h2⟩
    · cases h
end uh1X
namespace uh1C
noncomputable def bd:Code:=(Tryz.f63.body).getD .skip
noncomputable def X:Ctx U El:=⟨E,tds,zeros,eqs,specOf [(108,uh1X.sp)],100000,9,dspecOf [],fun _=>none⟩
noncomputable def nmR:Norm U:=⟨[],[4],[],[],[],[],[]⟩
noncomputable def RR:Kont U El:=fun st=>normK nmR st (retFin [4] [])
noncomputable def fr0 (l:List Cnd) (am:List ((List UInt8)×Int)):St U El:=⟨[(0,(.lst .cnd l)),(1,(.fn 102 [] [(.pcs [(.fmp .str .int am)] 0)]))],[]⟩
noncomputable def sh0 (l:List Cnd) (am:List ((List UInt8)×Int)):R :=
  chk (nle (List.length l) 90000) (some ((.bool (ile (0:Int) (findZ (failsM am) 0 l))),[]))
theorem P0 (l am):exec X (cdp [] bd) .d (fr0 l am) RR (fun _ _=>none) RR=sh0 l am:=by kernel_rfl
noncomputable def f0 (l:List Cnd) (am:List ((List UInt8)×Int)):R:=sh0 l am
theorem T0 (l am):exec X bd .d (fr0 l am) RR (fun _ _=>none) RR=f0 l am:=by
  refine (P0 l am).trans ?_
  show _=sh0 l am
  rfl
theorem run (l am):runFn X bd .d nmR [4] [] [(.lst .cnd l),(.fn 102 [] [(.pcs [(.fmp .str .int am)] 0)])]=f0 l am:=T0 l am
theorem f0_eq (l:List Cnd) (am:List ((List UInt8)×Int)) (h:(nle (List.length l) 90000)=true):f0 l am=outB (List.any l (failsM am)):=by
  show chk _ (outB _)=_
  rw [h,chkT,findZ_any]
theorem ok:CtxOk Tryz.prog X:=ctxOk tab (spC uh1X.spOk spN) dpN
theorem okM:MOk Tryz.prog X:=fun g sp h=>by cases h
theorem spec (l:List Cnd) (am:List ((List UInt8)×Int)) (h:(nle (List.length l) 90000)=true):CallSpec Tryz.prog E 63 [(.lst .cnd l),(.fn 102 [] [(.pcs [(.fmp .str .int am)] 0)])] (.bool (List.any l (failsM am))) [] :=
  runFn_sound ok okM Tryz.call63 Tryz.func63 (by kernel_rfl) (by kernel_rfl) (by kernel_rfl) (by show 2≤9; decide) (by decide) (by rfl) ((run l am).trans (f0_eq l am h))
noncomputable def sp:Sp U El:=fun args k=>match args with
  | [.lst .cnd l,.fn 102 [] [.pcs [.fmp .str .int am] 0]]=>chk (nle (List.length l) 90000) (k (.bool (List.any l (failsM am))) [])
  | _=>none
theorem spOk:SpOk Tryz.prog E 63 sp where
  det:=fun vs=>by
    unfold sp
    split
    · exact det_c _ _ _
    · exact ⟨none,fun _=>rfl⟩
  ok:=fun vs k r h=>by
    unfold sp at h
    split at h
    · obtain ⟨h1, h2⟩ := chk_some h
      exact ⟨_,_,spec _ _ h1,h2⟩
    · cases h
end uh1C
namespace uholds
noncomputable def bd:Code:=(Tryz.f55.body).getD .skip
noncomputable def X:Ctx U El:=⟨E,tds,zeros,eqs,specOf [(63,uh1C.sp)],100000,10,dspecOf [],fun _=>none⟩
noncomputable def nmR:Norm U:=⟨[],[4],[],[],[],[],[]⟩
noncomputable def RR:Kont U El:=fun st=>normK nmR st (retFin [4] [])
noncomputable def fr0 (r:Rule) (am:List ((List UInt8)×Int)):St U El:=⟨[(0,(.agg [(.str r.rn),(.lst .cnd r.rw),(.str r.rl),(.int .i64 r.rs)])),(1,(.fmp .str .int am))],[]⟩
noncomputable def sh0 (r:Rule) (am:List ((List UInt8)×Int)):R :=
  chk (nle (List.length r.rw) 90000) (some ((.bool (!(List.any r.rw (failsM am)))),[]))
theorem P0 (r am):exec X (cdp [] bd) .d (fr0 r am) RR (fun _ _=>none) RR=sh0 r am:=by kernel_rfl
noncomputable def f0 (r:Rule) (am:List ((List UInt8)×Int)):R:=sh0 r am
theorem T0 (r am):exec X bd .d (fr0 r am) RR (fun _ _=>none) RR=f0 r am:=by
  refine (P0 r am).trans ?_
  show _=sh0 r am
  rfl
theorem run (r am):runFn X bd .d nmR [4] [] [(.agg [(.str r.rn),(.lst .cnd r.rw),(.str r.rl),(.int .i64 r.rs)]),(.fmp .str .int am)]=f0 r am:=T0 r am
theorem f0_eq (r:Rule) (m:List ((List UInt8)×Int)) (h:(nle (List.length (Rule.rw r)) 90000)=true):f0 r m=outB (!(List.any (Rule.rw r) (failsM m))):=by
  show sh0 r m=_
  unfold sh0
  rw [h]
  rfl
theorem ok:CtxOk Tryz.prog X:=ctxOk tab (spC uh1C.spOk spN) dpN
theorem okM:MOk Tryz.prog X:=fun g sp h=>by cases h
theorem spec (r:Rule) (am:List ((List UInt8)×Int)) (h:(nle (List.length (Rule.rw r)) 90000)=true):CallSpec Tryz.prog E 55 [(.agg [(.str r.rn),(.lst .cnd r.rw),(.str r.rl),(.int .i64 r.rs)]),(.fmp .str .int am)] (.bool (!(List.any (Rule.rw r) (failsM am)))) [] :=
  runFn_sound ok okM Tryz.call55 Tryz.func55 (by kernel_rfl) (by kernel_rfl) (by kernel_rfl) (by show 2≤10; decide) (by decide) (by rfl) ((run r am).trans (f0_eq r am h))
noncomputable def sp:Sp U El:=fun args k=>match args with
  | [.agg [.str r_rn,.lst .cnd r_rw,.str r_rl,.int .i64 r_rs],.fmp .str .int am]=>chk (nle (List.length (Rule.rw (⟨r_rn,r_rw,r_rl,r_rs⟩:Rule))) 90000) (k (.bool (!(List.any (Rule.rw (⟨r_rn,r_rw,r_rl,r_rs⟩:Rule)) (failsM am)))) [])
  | _=>none
theorem spOk:SpOk Tryz.prog E 55 sp where
  det:=fun vs=>by
    unfold sp
    split
    · exact det_c _ _ _
    · exact ⟨none,fun _=>rfl⟩
  ok:=fun vs k r h=>by
    unfold sp at h
    split at h
    · obtain ⟨h1, h2⟩ := chk_some h
      exact ⟨_,_,spec ⟨_,_,_,_⟩ _ h1,h2⟩
    · cases h
end uholds
theorem findZ_le {α : Type} (p : α → Bool) : ∀ (l : List α) (i k : Nat) (h : k < l.length), p l[k] = true → findZ p i l ≤ ((i + k : Nat) : Int) := by
  intro l
  induction l with
  | nil=>intro i k h; simp at h
  | cons x l ih =>
    intro i k h hp
    simp only [findZ]
    cases e:p x with
    | true=>rw [cond_true]; omega
    | false =>
      cases k with
      | zero=>simp at hp; rw [hp] at e; cases e
      | succ k =>
        have:=ih (i+1) k (by simpa using h) (by simpa using hp)
        rw [cond_false]; omega
theorem hasN_elem {n:Net} {s:List UInt8} (h:hasN n s=true):List.elem s (namesL n)=true:=by
  obtain ⟨x,hx,hs⟩:=List.any_eq_true.1 h
  have:x.nn=s:=by simpa [isNode] using hs
  rw [List.elem_iff]
  exact List.mem_map.2 ⟨x,hx,this⟩
theorem dist_names {n:Net} (h:netB n=true):distB (namesL n)=true:=by
  simp only [netB,Bool.and_eq_true] at h
  refine allI_iff.2 fun j s hs => ?_
  rw [Nat.zero_add,Bool.not_eq_true']
  cases he:List.elem s ((namesL n).take j) with
  | false=>rfl
  | true =>
    rw [List.elem_iff] at he
    obtain ⟨k,hk,ek⟩:=List.getElem_of_mem he
    simp only [List.length_take] at hk
    simp only [namesL,List.getElem?_map,Option.map_eq_some_iff] at hs
    obtain ⟨x,hx,rfl⟩:=hs
    have h1:=allI_iff.1 h.2.2.1 j x hx
    simp only [nodeBad,Bool.not_eq_true',Bool.or_eq_false_iff,Nat.zero_add] at h1
    have h2:nodeZ n x.nn=(j:Int):=by simpa using h1.2
    have hkl : k < n.nds.length := by have : (namesL n).length = n.nds.length := by simp [namesL]
                                      omega
    have h3:isNode x.nn n.nds[k]=true:=by
      simp only [List.getElem_take,namesL,List.getElem_map] at ek
      simp [isNode,ek]
    have h4:=findZ_le (isNode x.nn) n.nds 0 k hkl h3
    unfold nodeZ at h2
    omega
noncomputable def notSet (x:Int):Bool := !(ile 0 x&&ile x 1000)
noncomputable def runS (n:Net) (am:List ((List UInt8)×Int)):List Rule→List Int→List (Int×Bool)→Option (List Int)
  | [],out,_=>some out
  | r :: l, out, st => bif !(List.any r.rw (failsM am)) then (bif mgetD kq_int st (linkZ n r.rl) d_bool && (List.getD out (Int.toNat (linkZ n r.rl)) d_int != r.rs) then none
      else runS n am l (List.set out (Int.toNat (linkZ n r.rl)) r.rs) (mput kq_int st (linkZ n r.rl) true)) else runS n am l out st
noncomputable def setsO (l:List Rule) (n:Net) (v bf:List Int):Option (List Int):=runS n (List.zip (namesL n) v) l bf []
noncomputable def setsE (l:List Rule) (n:Net) (v bf:List Int):Int :=
  bif rulesB l then (bif netB n then (bif Nat.beq v.length n.nds.length then (bif Nat.beq bf.length n.lks.length then (bif List.any bf notSet then 2 else (bif knownB l n then (bif (setsO l n v bf).isSome then 0 else 26) else 9)) else 3) else 3) else 1) else 1
noncomputable def setsL (l:List Rule) (n:Net) (v bf:List Int):List Int:=bif setsE l n v bf == 0 then (setsO l n v bf).getD [] else []
noncomputable def outS (o:List Int) (e:Int):R:=some (.tup [.ful 0,.int .i64 e],[(0,.rows .int o)])
noncomputable def outST (o:Option (List Int)):R:=some (.tup [.ful 0,.int .i64 (bif o.isSome then 0 else 26)],[(0,.rows .int (o.getD []))])
noncomputable def lnkM:Nat→List Lnk→List ((List UInt8)×Int)
  | _,[]=>[]
  | i,x :: l=>(x.ln,(i:Int)) :: lnkM (i+1) l
theorem lnkM_snoc (x:Lnk):∀ (a:List Lnk) (i:Nat),lnkM i (a++[x])=lnkM i a++[(x.ln,((i+a.length:Nat):Int))]:=by
  intro a
  induction a with
  | nil=>intro i; rfl
  | cons y a ih =>
    intro i
    simp only [List.cons_append,lnkM,ih,List.length_cons]
    rw [show i+1+a.length=i+(a.length+1) by omega]
theorem mfind_lnk (k:List UInt8):∀ (a:List Lnk) (i:Nat),mfind kq_str (lnkM i a) k=bif List.any a (isLink k) then some (findZ (isLink k) i a) else none:=by
  intro a
  induction a with
  | nil=>intro i; rfl
  | cons x a ih =>
    intro i
    have e:kq_str k x.ln=isLink k x:=by
      rw [kq_eq]
      unfold isLink
      rw [Bool.eq_iff_iff,beq_iff_eq,beq_iff_eq]
      exact ⟨Eq.symm,Eq.symm⟩
    simp only [lnkM,mfind,List.any_cons,findZ,e,ih]
    cases isLink k x<;>rfl
theorem net_link {n:Net} (h:netB n=true) (i:Nat) (hi:i < n.lks.length):linkZ n n.lks[i].ln=(i:Int):=by
  simp only [netB,Bool.and_eq_true] at h
  have:=allI_iff.1 h.2.2.2 i _ (List.getElem?_eq_getElem hi)
  simp only [linkBad,Bool.not_eq_true',Bool.or_eq_false_iff,Nat.zero_add] at this
  simpa using this.2.1
theorem link_new {n:Net} (h:netB n=true) (i:Nat) (hi:i < n.lks.length):List.any (n.lks.take i) (isLink n.lks[i].ln)=false:=by
  cases he:List.any (n.lks.take i) (isLink n.lks[i].ln) with
  | false=>rfl
  | true =>
    obtain ⟨x,hx,hs⟩:=List.any_eq_true.1 he
    obtain ⟨k,hk,ek⟩:=List.getElem_of_mem hx
    simp only [List.length_take] at hk
    rw [List.getElem_take] at ek
    have h1:=findZ_le (isLink n.lks[i].ln) n.lks 0 k (by omega) (by rw [ek]; exact hs)
    have h2:=net_link h i hi
    unfold linkZ at h2
    omega
theorem link_in {n:Net} {s:List UInt8} (h:ilt (linkZ n s) 0=false):0≤linkZ n s∧linkZ n s < (n.lks.length:Int)∧List.any n.lks (isLink s)=true:=by
  have h1:=iltN h
  have h2:ile 0 (linkZ n s)=true:=ileT (by omega)
  have h3:List.any n.lks (isLink s)=true:=by unfold linkZ at h2; rwa [findZ_any] at h2
  unfold linkZ at *
  rcases findZ_range (isLink s) n.lks 0 with h4 | ⟨h4,h5⟩
  · omega
  · exact ⟨by omega,by omega,h3⟩
theorem known_link {l:List Rule} {n:Net} (hk:knownB l n=true):∀ r∈l,ilt (linkZ n r.rl) 0=false:=fun r hr=>by
  have:=List.all_eq_true.1 hk r hr
  simp only [knownR,Bool.and_eq_true,Bool.not_eq_true'] at this
  exact this.1
namespace cloneI
noncomputable def bd:Code:=(Tryz.f54.body).getD .skip
noncomputable def X:Ctx U El:=⟨E,tds,zeros,eqs,specOf [],100000,8,dspecOf [],fun _=>none⟩
noncomputable def nmR:Norm U:=⟨[(2,.int)],[2],[2],[],[],[],[]⟩
noncomputable def RR:Kont U El:=fun st=>normK nmR st (retFin [2] [2])
noncomputable def fr0 (l:List Int):St U El:=⟨[(0,(.lst .int l))],[]⟩
noncomputable def sh0 (l:List Int):R :=
  condB (nlt 0 (List.length l)) (chk (nle ((List.length ([]:List Int)+List.length l) * 8) 140737488355328&&nle (List.length ([]:List Int)+List.length l) 9223372036854775807) (some ((.ful 0),[(0,.rows .int (([]:List Int)++l))]))) (amb (some ((.ful 0),[(0,.rows .int ([]:List Int))])) (chk (nle ((List.length ([]:List Int)+List.length l) * 8) 140737488355328&&nle (List.length ([]:List Int)+List.length l) 9223372036854775807) (some ((.ful 0),[(0,.rows .int (([]:List Int)++l))]))))
theorem P0 (l):exec X (cdp [] bd) .d (fr0 l) RR (fun _ _=>none) RR=sh0 l:=by kernel_rfl
noncomputable def f0 (l:List Int):R:=sh0 l
theorem T0 (l):exec X bd .d (fr0 l) RR (fun _ _=>none) RR=f0 l:=by
  refine (P0 l).trans ?_
  show _=sh0 l
  rfl
theorem run (l):runFn X bd .d nmR [2] [2] [(.lst .int l)]=f0 l:=T0 l
theorem f0_eq (l:List Int) (h:(nle (List.length l) 90000)=true):f0 l=outV1 l:=by
  have hl:=nleI h
  show sh0 l=_
  unfold sh0
  have e1:nle ((List.length ([]:List Int)+List.length l) * 8) 140737488355328=true:=nleT (by simp; omega)
  have e2:nle (List.length ([]:List Int)+List.length l) 9223372036854775807=true:=nleT (by simp; omega)
  rw [e1,e2]
  cases l with
  | nil=>exact amb_same _
  | cons x l=>rfl
theorem ok:CtxOk Tryz.prog X:=ctxOk tab spN dpN
theorem okM:MOk Tryz.prog X:=fun g sp h=>by cases h
theorem spec (l:List Int) (h:(nle (List.length l) 90000)=true):CallSpec Tryz.prog E 54 [(.lst .int l)] (.ful 0) [(0,.rows .int (l))] :=
  runFn_sound ok okM Tryz.call54 Tryz.func54 (by kernel_rfl) (by kernel_rfl) (by kernel_rfl) (by show 1≤8; decide) (by decide) (by rfl) ((run l).trans (f0_eq l h))
noncomputable def sp:Sp U El:=fun args k=>match args with
  | [.lst .int l]=>chk (nle (List.length l) 90000) (k (.ful 0) [(0,.rows .int (l))])
  | _=>none
theorem spOk:SpOk Tryz.prog E 54 sp where
  det:=fun vs=>by
    unfold sp
    split
    · exact det_c _ _ _
    · exact ⟨none,fun _=>rfl⟩
  ok:=fun vs k r h=>by
    unfold sp at h
    split at h
    · obtain ⟨h1, h2⟩ := chk_some h
      exact ⟨_,_,spec _ h1,h2⟩
    · cases h
end cloneI
namespace se1
noncomputable def bd:Code:=(Tryz.f52.body).getD .skip
noncomputable def X:Ctx U El:=⟨E,tds,zeros,eqs,specOf [(53,rwithin.sp)],100000,6,dspecOf [],fun _=>none⟩
noncomputable def nmR:Norm U:=⟨[],[2],[],[],[],[],[]⟩
noncomputable def RR:Kont U El:=fun st=>normK nmR st (retFin [2] [])
noncomputable def fr0 (x:Int):St U El:=⟨[(0,(.int .i64 x))],[]⟩
noncomputable def sh0 (x:Int):R :=
  some ((.bool (!((ile (0:Int) x&&ile x (1000:Int))))),[])
theorem P0 (x):exec X (cdp [] bd) .d (fr0 x) RR (fun _ _=>none) RR=sh0 x:=by kernel_rfl
noncomputable def f0 (x:Int):R:=sh0 x
theorem T0 (x):exec X bd .d (fr0 x) RR (fun _ _=>none) RR=f0 x:=by
  refine (P0 x).trans ?_
  show _=sh0 x
  rfl
theorem run (x):runFn X bd .d nmR [2] [] [(.int .i64 x)]=f0 x:=T0 x
theorem f0_eq (x:Int):f0 x=outB (notSet x):=rfl
theorem ok:CtxOk Tryz.prog X:=ctxOk tab (spC rwithin.spOk spN) dpN
theorem okM:MOk Tryz.prog X:=fun g sp h=>by cases h
theorem spec (x:Int):CallSpec Tryz.prog E 52 [(.int .i64 x)] (.bool (notSet x)) [] :=
  runFn_sound ok okM Tryz.call52 Tryz.func52 (by kernel_rfl) (by kernel_rfl) (by kernel_rfl) (by show 1≤6; decide) (by decide) (by rfl) ((run x).trans (f0_eq x))
noncomputable def sp:Sp U El:=fun args k=>match args with
  | [.int .i64 x]=>k (.bool (notSet x)) []
  | _=>none
theorem spOk:SpOk Tryz.prog E 52 sp where
  det:=fun vs=>by
    unfold sp
    split
    · exact ⟨some (_,_),fun _=>rfl⟩
    · exact ⟨none,fun _=>rfl⟩
  ok:=fun vs k r h=>by
    unfold sp at h
    split at h
    · exact ⟨_,_,spec _,h⟩
    · cases h
end se1
namespace se1X
noncomputable def bd:Code:=(Tryz.f101.body).getD .skip
noncomputable def X:Ctx U El:=⟨E,tds,zeros,eqs,specOf [(52,se1.sp)],100000,19,dspecOf [],fun _=>none⟩
noncomputable def nmR:Norm U:=⟨[],[4],[],[],[],[],[]⟩
noncomputable def RR:Kont U El:=fun st=>normK nmR st (retFin [4] [])
noncomputable def nm1:Norm U:=⟨[],[],[],[],[],[],[]⟩
noncomputable def nm2:Norm U:=⟨[],[0,1,7,8],[],[],[],[],[]⟩
abbrev Y1:=R
abbrev Y2:=(List Int)→Int→Int→R
noncomputable def fr0 (l:List Int):St U El:=⟨[(0,(.lst .int l)),(1,(.fn 52 [] []))],[]⟩
noncomputable def fr1:St U El:=⟨[],[]⟩
noncomputable def fr2 (s0:List Int) (x7:Int) (x8:Int):St U El:=⟨[(0,(.lst .int s0)),(1,(.fn 52 [] [])),(7,(.int .i64 x7)),(8,(.int .i64 x8))],[]⟩
noncomputable def sh0 (l:List Int) (k2:Y2):R :=
  k2 l (Int.ofNat (List.length l)) (0:Int)
noncomputable def sh1:R :=
  some ((.int .i64 (-1:Int)),[])
noncomputable def sh2 (s0:List Int) (x7:Int) (x8:Int) (k1:Y1) (k2:Y2):R :=
  condB (ilt x8 x7) (chk (inb x8 (List.length s0)) (condB (notSet (List.getD s0 (Int.toNat x8) d_int)) (some ((.int .i64 x8),[])) (k2 s0 x7 (IntKind.wrap .i64 (x8+(1:Int)))))) (k1)
noncomputable def it2 (Kb1:Kont U El) (n:Nat):Kont U El:=iter nm2 (fun st' K'=>exec X (cdp [1,0,1,0,0] bd) .d st' K' (Eblk 0 (cutK nm1 Kb1) (fun _ _=>none)) RR) n
noncomputable def ct1:Kont U El:=fun st=>exec X (cdp [1,1] bd) .d st RR (fun _ _=>none) RR
theorem P0 (l):exec X (cdp [] bd) (.seq none .d (.seq (some nm1) (.seq none .d (.block (.loop nm2 .d))) .d)) (fr0 l) RR (fun _ _=>none) RR=sh0 l (fun y0 y1 y2=>(hid (it2 (hid ct1) 100000)) (fr2 y0 y1 y2)):=by kernel_rfl
theorem P1:ct1 (fr1)=sh1:=by kernel_rfl
theorem P2 (s0 x7 x8) (Kb1 Kb2:Kont U El):exec X (cdp [1,0,1,0,0] bd) .d (fr2 s0 x7 x8) (cutK nm2 Kb2) (Eblk 0 (cutK nm1 Kb1) (fun _ _=>none)) RR=sh2 s0 x7 x8 (Kb1 (fr1)) (fun y0 y1 y2=>Kb2 (fr2 y0 y1 y2)):=by kernel_rfl
noncomputable def f1:R:=sh1
noncomputable def f2:Nat→Y2
  | 0=>fun _ _ _=>none
  | n+1=>fun s0 x7 x8=>sh2 s0 x7 x8 f1 (f2 n)
noncomputable def f0 (l:List Int):R:=sh0 l (f2 100000)
theorem T1:(hid ct1) (fr1)=f1:=by
  refine (congrFun (hid_eq _) _).trans <| (P1).trans ?_
  show _=sh1
  rfl
theorem T2:∀ (n:Nat),∀ s0 x7 x8,it2 (hid ct1) n (fr2 s0 x7 x8)=f2 n s0 x7 x8:=by
  intro n
  induction n with
  | zero=>intros; rfl
  | succ n ih =>
    intro s0 x7 x8
    refine (P2 s0 x7 x8 (hid ct1) (it2 (hid ct1) n)).trans ?_
    show _=sh2 s0 x7 x8 f1 (f2 n)
    simp only [T1,ih]
theorem H2 (s0 x7 x8):hid (it2 (hid ct1) 100000) (fr2 s0 x7 x8)=f2 100000 s0 x7 x8:=(congrFun (hid_eq _) _).trans (T2 100000 s0 x7 x8)
theorem T0 (l):exec X bd (.seq none .d (.seq (some nm1) (.seq none .d (.block (.loop nm2 .d))) .d)) (fr0 l) RR (fun _ _=>none) RR=f0 l:=by
  refine (P0 l).trans ?_
  show _=sh0 l (f2 100000)
  simp only [H2]
theorem run (l):runFn X bd (.seq none .d (.seq (some nm1) (.seq none .d (.block (.loop nm2 .d))) .d)) nmR [4] [] [(.lst .int l),(.fn 52 [] [])]=f0 l:=T0 l
theorem f0_eq (l:List Int) (h:(nle (List.length l) 90000)=true):f0 l=outI (findZ notSet 0 l):=by
  have hl:=nleI h
  refine (grun_eq l (by omega) (fun n_ (_:Unit) i_=>f2 n_ l (Int.ofNat l.length) i_) _ (fun _=>outI (-1)) (fun n_ u_ i_ hi_ => ?_) (fun n_ u_ => ?_) 100000 0 () (by omega) (by omega)).trans (grun_find notSet outI l 0)
  · show sh2 l (Int.ofNat l.length) i_ f1 (f2 n_) = _
    unfold sh2
    rw [iltT (by simp; omega),inbT hi_,toNat_nat,getD_lt hi_]
    rfl
  · show sh2 l (Int.ofNat l.length) (l.length : Int) f1 (f2 n_) = _
    unfold sh2
    rw [iltF (by simp)]
    rfl
theorem ok:CtxOk Tryz.prog X:=ctxOk tab (spC se1.spOk spN) dpN
theorem okM:MOk Tryz.prog X:=fun g sp h=>by cases h
theorem spec (l:List Int) (h:(nle (List.length l) 90000)=true):CallSpec Tryz.prog E 101 [(.lst .int l),(.fn 52 [] [])] (.int .i64 (findZ notSet 0 l)) [] :=
  runFn_sound ok okM Tryz.call101 Tryz.func101 (by kernel_rfl) (by kernel_rfl) (by kernel_rfl) (by show 2≤19; decide) (by decide) (by rfl) ((run l).trans (f0_eq l h))
noncomputable def sp:Sp U El:=fun args k=>match args with
  | [.lst .int l,.fn 52 [] []]=>chk (nle (List.length l) 90000) (k (.int .i64 (findZ notSet 0 l)) [])
  | _=>none
theorem spOk:SpOk Tryz.prog E 101 sp where
  det:=fun vs=>by
    unfold sp
    split
    · exact det_c _ _ _
    · exact ⟨none,fun _=>rfl⟩
  ok:=fun vs k r h=>by
    unfold sp at h
    split at h
    · obtain ⟨h1, h2⟩ := chk_some h
      exact ⟨_,_,spec _ h1,h2⟩
    · cases h
end se1X
namespace se1C
noncomputable def bd:Code:=(Tryz.f51.body).getD .skip
noncomputable def X:Ctx U El:=⟨E,tds,zeros,eqs,specOf [(101,se1X.sp)],100000,9,dspecOf [],fun _=>none⟩
noncomputable def nmR:Norm U:=⟨[],[4],[],[],[],[],[]⟩
noncomputable def RR:Kont U El:=fun st=>normK nmR st (retFin [4] [])
noncomputable def fr0 (l:List Int):St U El:=⟨[(0,(.lst .int l)),(1,(.fn 52 [] []))],[]⟩
noncomputable def sh0 (l:List Int):R :=
  chk (nle (List.length l) 90000) (some ((.bool (ile (0:Int) (findZ notSet 0 l))),[]))
theorem P0 (l):exec X (cdp [] bd) .d (fr0 l) RR (fun _ _=>none) RR=sh0 l:=by kernel_rfl
noncomputable def f0 (l:List Int):R:=sh0 l
theorem T0 (l):exec X bd .d (fr0 l) RR (fun _ _=>none) RR=f0 l:=by
  refine (P0 l).trans ?_
  show _=sh0 l
  rfl
theorem run (l):runFn X bd .d nmR [4] [] [(.lst .int l),(.fn 52 [] [])]=f0 l:=T0 l
theorem f0_eq (l:List Int) (h:(nle (List.length l) 90000)=true):f0 l=outB (List.any l notSet):=by
  show chk _ (outB _)=_
  rw [h,chkT,findZ_any]
theorem ok:CtxOk Tryz.prog X:=ctxOk tab (spC se1X.spOk spN) dpN
theorem okM:MOk Tryz.prog X:=fun g sp h=>by cases h
theorem spec (l:List Int) (h:(nle (List.length l) 90000)=true):CallSpec Tryz.prog E 51 [(.lst .int l),(.fn 52 [] [])] (.bool (List.any l notSet)) [] :=
  runFn_sound ok okM Tryz.call51 Tryz.func51 (by kernel_rfl) (by kernel_rfl) (by kernel_rfl) (by show 2≤9; decide) (by decide) (by rfl) ((run l).trans (f0_eq l h))
noncomputable def sp:Sp U El:=fun args k=>match args with
  | [.lst .int l,.fn 52 [] []]=>chk (nle (List.length l) 90000) (k (.bool (List.any l notSet)) [])
  | _=>none
theorem spOk:SpOk Tryz.prog E 51 sp where
  det:=fun vs=>by
    unfold sp
    split
    · exact det_c _ _ _
    · exact ⟨none,fun _=>rfl⟩
  ok:=fun vs k r h=>by
    unfold sp at h
    split at h
    · obtain ⟨h1, h2⟩ := chk_some h
      exact ⟨_,_,spec _ h1,h2⟩
    · cases h
end se1C
namespace usettings
noncomputable def bd:Code:=(Tryz.f17.body).getD .skip
noncomputable def X:Ctx U El:=⟨E,tds,zeros,eqs,specOf [(13,valid.sp),(50,nvalid.sp),(51,se1C.sp),(54,cloneI.sp),(55,uholds.sp)],100000,160,dspecOf [],fun _=>none⟩
noncomputable def nmR:Norm U:=⟨[(8,.int)],[8,9],[8],[],[],[],[]⟩
noncomputable def RR:Kont U El:=fun st=>normK nmR st (retFin [8,9] [8])
noncomputable def nm1:Norm U:=⟨[],[0,2,3,5],[5],[],[],[],[(5,0,.node),(5,1,.link)]⟩
noncomputable def nm2:Norm U:=⟨[],[0,3,5,10],[5,56],[],[],[],[(5,0,.node),(5,1,.link)]⟩
noncomputable def nm3:Norm U:=⟨[],[0,2,3,5,10,58,59,60],[5,56],[],[],[],[(5,0,.node),(5,1,.link)]⟩
noncomputable def nm4:Norm U:=⟨[],[0,3,10,13],[56,73],[],[],[],[]⟩
noncomputable def nm5:Norm U:=⟨[],[0,3,10,13,75,76,77],[56,73],[],[],[],[]⟩
noncomputable def nm6:Norm U:=⟨[],[0,3,10,13],[56,73],[],[],[],[]⟩
noncomputable def nm7:Norm U:=⟨[],[0,3,10,13,87,88,89],[56,73],[],[],[],[]⟩
noncomputable def nm8:Norm U:=⟨[],[0,3,10,13,87,88,89],[56,73],[],[],[],[]⟩
noncomputable def nm9:Norm U:=⟨[],[0,3,10,13,19,87,88,89],[56,73],[],[],[],[]⟩
noncomputable def nm10:Norm U:=⟨[],[0,3,10,13,19,87,88,89,101,102,103],[56,73],[],[],[],[]⟩
noncomputable def nm11:Norm U:=⟨[],[0,3,10,13,19,87,88,89,101,102,103],[56,73],[],[],[],[]⟩
noncomputable def nm12:Norm U:=⟨[(24,.int)],[24],[24],[],[],[],[]⟩
noncomputable def nm13:Norm U:=⟨[(24,.int)],[10,13,24,25,125,126,127],[24,56,73,124],[],[],[],[]⟩
noncomputable def nm14:Norm U:=⟨[(24,.int)],[10,13,24,25,125,126,127],[24,56,73,124],[],[],[],[]⟩
noncomputable def nm15:Norm U:=⟨[(24,.int)],[10,13,24,25,27,28,125,126,127],[24,27,56,73,124],[],[],[],[(27,1,.cnd)]⟩
abbrev Y1:=(List Rule)→(List Int)→(List Int)→(List Node)→(List Lnk)→R
abbrev Y2:=(List Rule)→(List Int)→(List Node)→(List Lnk)→(List ((List UInt8)×Int))→R
abbrev Y3:=(List Rule)→(List Int)→(List Int)→(List Node)→Int→Int→(List Node)→(List Lnk)→(List ((List UInt8)×Int))→R
abbrev Y4:=(List Rule)→(List Int)→(List ((List UInt8)×Int))→(List ((List UInt8)×Int))→R
abbrev Y5:=(List Rule)→(List Int)→(List Lnk)→Int→Int→(List ((List UInt8)×Int))→(List ((List UInt8)×Int))→R
abbrev Y6:=(List Rule)→(List Int)→(List ((List UInt8)×Int))→(List ((List UInt8)×Int))→R
abbrev Y7:=(List Rule)→(List Int)→(List Rule)→Int→Int→(List ((List UInt8)×Int))→(List ((List UInt8)×Int))→R
abbrev Y8:=(List Rule)→(List Int)→(List Rule)→Int→Int→(List ((List UInt8)×Int))→(List ((List UInt8)×Int))→R
abbrev Y9:=(List Rule)→(List Int)→Bool→(List Rule)→Int→Int→(List ((List UInt8)×Int))→(List ((List UInt8)×Int))→R
abbrev Y10:=(List Rule)→(List Int)→Bool→(List Rule)→Int→Int→(List Cnd)→Int→Int→(List ((List UInt8)×Int))→(List ((List UInt8)×Int))→R
abbrev Y11:=(List Rule)→(List Int)→Bool→(List Rule)→Int→Int→(List Cnd)→Int→Int→(List ((List UInt8)×Int))→(List ((List UInt8)×Int))→R
abbrev Y12:=(List Int)→R
abbrev Y13:=(List Int)→(List Rule)→Int→Int→(List ((List UInt8)×Int))→(List ((List UInt8)×Int))→(List (Int×Bool))→R
abbrev Y14:=(List Int)→(List Rule)→Int→Int→(List ((List UInt8)×Int))→(List ((List UInt8)×Int))→(List (Int×Bool))→R
abbrev Y15:=(List Int)→Int→(List Rule)→Int→Int→(List UInt8)→(List Cnd)→(List UInt8)→Int→(List ((List UInt8)×Int))→(List ((List UInt8)×Int))→(List (Int×Bool))→R
noncomputable def fr0 (l:List Rule) (n:Net) (v:List Int) (bf:List Int):St U El:=⟨[(0,(.lst .rule l)),(1,(.agg [(.lst .node n.nds),(.lst .link n.lks)])),(2,(.lst .int v)),(3,(.lst .int bf))],[]⟩
noncomputable def fr1 (l0:List Rule) (bA:List Int) (aA:List Int) (cA:List Node) (dA:List Lnk):St U El:=⟨[(0,(.lst .rule l0)),(2,(.lst .int bA)),(3,(.lst .int aA)),(5,(.ptr 5 0))],[(5,(.box 0 [(.lst .node cA),(.lst .link dA)]))]⟩
noncomputable def fr2 (l0:List Rule) (aA:List Int) (cA:List Node) (dA:List Lnk) (fA:List ((List UInt8)×Int)):St U El:=⟨[(0,(.lst .rule l0)),(3,(.lst .int aA)),(5,(.ptr 5 0)),(10,(.mp 56))],[(5,(.box 0 [(.lst .node cA),(.lst .link dA)])),(56,(.map .str .int fA))]⟩
noncomputable def fr3 (l0:List Rule) (bA:List Int) (aA:List Int) (mB:List Node) (pB:Int) (iB:Int) (cA:List Node) (dA:List Lnk) (fA:List ((List UInt8)×Int)):St U El:=⟨[(0,(.lst .rule l0)),(2,(.lst .int bA)),(3,(.lst .int aA)),(5,(.ptr 5 0)),(10,(.mp 56)),(58,(.lst .node mB)),(59,(.int .i64 pB)),(60,(.int .i64 iB))],[(5,(.box 0 [(.lst .node cA),(.lst .link dA)])),(56,(.map .str .int fA))]⟩
noncomputable def fr4 (l0:List Rule) (aA:List Int) (fA:List ((List UInt8)×Int)) (iA:List ((List UInt8)×Int)):St U El:=⟨[(0,(.lst .rule l0)),(3,(.lst .int aA)),(10,(.mp 56)),(13,(.mp 73))],[(56,(.map .str .int fA)),(73,(.map .str .int iA))]⟩
noncomputable def fr5 (l0:List Rule) (aA:List Int) (nB:List Lnk) (qB:Int) (jB:Int) (fA:List ((List UInt8)×Int)) (iA:List ((List UInt8)×Int)):St U El:=⟨[(0,(.lst .rule l0)),(3,(.lst .int aA)),(10,(.mp 56)),(13,(.mp 73)),(75,(.lst .link nB)),(76,(.int .i64 qB)),(77,(.int .i64 jB))],[(56,(.map .str .int fA)),(73,(.map .str .int iA))]⟩
noncomputable def fr6 (l0:List Rule) (aA:List Int) (fA:List ((List UInt8)×Int)) (iA:List ((List UInt8)×Int)):St U El:=⟨[(0,(.lst .rule l0)),(3,(.lst .int aA)),(10,(.mp 56)),(13,(.mp 73))],[(56,(.map .str .int fA)),(73,(.map .str .int iA))]⟩
noncomputable def fr7 (l0:List Rule) (aA:List Int) (pA:List Rule) (rA:Int) (oA:Int) (fA:List ((List UInt8)×Int)) (iA:List ((List UInt8)×Int)):St U El:=⟨[(0,(.lst .rule l0)),(3,(.lst .int aA)),(10,(.mp 56)),(13,(.mp 73)),(87,(.lst .rule pA)),(88,(.int .i64 rA)),(89,(.int .i64 oA))],[(56,(.map .str .int fA)),(73,(.map .str .int iA))]⟩
noncomputable def fr8 (l0:List Rule) (aA:List Int) (pA:List Rule) (rA:Int) (oA:Int) (fA:List ((List UInt8)×Int)) (iA:List ((List UInt8)×Int)):St U El:=⟨[(0,(.lst .rule l0)),(3,(.lst .int aA)),(10,(.mp 56)),(13,(.mp 73)),(87,(.lst .rule pA)),(88,(.int .i64 rA)),(89,(.int .i64 oA))],[(56,(.map .str .int fA)),(73,(.map .str .int iA))]⟩
noncomputable def fr9 (l0:List Rule) (aA:List Int) (qA:Bool) (pA:List Rule) (rA:Int) (oA:Int) (fA:List ((List UInt8)×Int)) (iA:List ((List UInt8)×Int)):St U El:=⟨[(0,(.lst .rule l0)),(3,(.lst .int aA)),(10,(.mp 56)),(13,(.mp 73)),(19,(.bool qA)),(87,(.lst .rule pA)),(88,(.int .i64 rA)),(89,(.int .i64 oA))],[(56,(.map .str .int fA)),(73,(.map .str .int iA))]⟩
noncomputable def fr10 (l0:List Rule) (aA:List Int) (qA:Bool) (pA:List Rule) (rA:Int) (oA:Int) (uA:List Cnd) (vA:Int) (tA:Int) (fA:List ((List UInt8)×Int)) (iA:List ((List UInt8)×Int)):St U El:=⟨[(0,(.lst .rule l0)),(3,(.lst .int aA)),(10,(.mp 56)),(13,(.mp 73)),(19,(.bool qA)),(87,(.lst .rule pA)),(88,(.int .i64 rA)),(89,(.int .i64 oA)),(101,(.lst .cnd uA)),(102,(.int .i64 vA)),(103,(.int .i64 tA))],[(56,(.map .str .int fA)),(73,(.map .str .int iA))]⟩
noncomputable def fr11 (l0:List Rule) (aA:List Int) (qA:Bool) (pA:List Rule) (rA:Int) (oA:Int) (uA:List Cnd) (vA:Int) (tA:Int) (fA:List ((List UInt8)×Int)) (iA:List ((List UInt8)×Int)):St U El:=⟨[(0,(.lst .rule l0)),(3,(.lst .int aA)),(10,(.mp 56)),(13,(.mp 73)),(19,(.bool qA)),(87,(.lst .rule pA)),(88,(.int .i64 rA)),(89,(.int .i64 oA)),(101,(.lst .cnd uA)),(102,(.int .i64 vA)),(103,(.int .i64 tA))],[(56,(.map .str .int fA)),(73,(.map .str .int iA))]⟩
noncomputable def fr12 (hA:List Int):St U El:=⟨[(24,(.ful 24))],[(24,(.rows .int hA))]⟩
noncomputable def fr13 (hA:List Int) (lA:List Rule) (nA:Int) (kA:Int) (fA:List ((List UInt8)×Int)) (iA:List ((List UInt8)×Int)) (mA:List (Int×Bool)):St U El:=⟨[(10,(.mp 56)),(13,(.mp 73)),(24,(.ful 24)),(25,(.mp 124)),(125,(.lst .rule lA)),(126,(.int .i64 nA)),(127,(.int .i64 kA))],[(24,(.rows .int hA)),(56,(.map .str .int fA)),(73,(.map .str .int iA)),(124,(.map .int .bool mA))]⟩
noncomputable def fr14 (hA:List Int) (lA:List Rule) (nA:Int) (kA:Int) (fA:List ((List UInt8)×Int)) (iA:List ((List UInt8)×Int)) (mA:List (Int×Bool)):St U El:=⟨[(10,(.mp 56)),(13,(.mp 73)),(24,(.ful 24)),(25,(.mp 124)),(125,(.lst .rule lA)),(126,(.int .i64 nA)),(127,(.int .i64 kA))],[(24,(.rows .int hA)),(56,(.map .str .int fA)),(73,(.map .str .int iA)),(124,(.map .int .bool mA))]⟩
noncomputable def fr15 (hA:List Int) (rB:Int) (lA:List Rule) (nA:Int) (kA:Int) (aB:List UInt8) (bB:List Cnd) (cB:List UInt8) (yA:Int) (fA:List ((List UInt8)×Int)) (iA:List ((List UInt8)×Int)) (mA:List (Int×Bool)):St U El:=⟨[(10,(.mp 56)),(13,(.mp 73)),(24,(.ful 24)),(25,(.mp 124)),(27,(.ptr 27 0)),(28,(.int .i64 rB)),(125,(.lst .rule lA)),(126,(.int .i64 nA)),(127,(.int .i64 kA))],[(24,(.rows .int hA)),(27,(.box 0 [(.str aB),(.lst .cnd bB),(.str cB),(.int .i64 yA)])),(56,(.map .str .int fA)),(73,(.map .str .int iA)),(124,(.map .int .bool mA))]⟩
noncomputable def sh0 (l:List Rule) (n:Net) (v:List Int) (bf:List Int) (k1:Y1):R :=
  condB (!(rulesB l)) (some ((.tup [(.ful 0),(.int .i64 (1:Int))]),[(0,.rows .int ([]:List Int))])) (chk (okN n) (condB (!(netB n)) (some ((.tup [(.ful 0),(.int .i64 (1:Int))]),[(0,.rows .int ([]:List Int))])) (condB ((Int.ofNat (List.length v)) != (Int.ofNat (List.length n.nds))) (some ((.tup [(.ful 0),(.int .i64 (3:Int))]),[(0,.rows .int ([]:List Int))])) (condB ((Int.ofNat (List.length bf)) != (Int.ofNat (List.length n.lks))) (some ((.tup [(.ful 0),(.int .i64 (3:Int))]),[(0,.rows .int ([]:List Int))])) (chk (nle (List.length bf) 90000) (condB (List.any bf notSet) (some ((.tup [(.ful 0),(.int .i64 (2:Int))]),[(0,.rows .int ([]:List Int))])) (k1 l v bf n.nds n.lks)))))))
noncomputable def sh1 (l0:List Rule) (bA:List Int) (aA:List Int) (cA:List Node) (dA:List Lnk) (k3:Y3):R :=
  k3 l0 bA aA cA (Int.ofNat (List.length cA)) (0:Int) cA dA ([]:List ((List UInt8)×Int))
noncomputable def sh2 (l0:List Rule) (aA:List Int) (cA:List Node) (dA:List Lnk) (fA:List ((List UInt8)×Int)) (k5:Y5):R :=
  k5 l0 aA dA (Int.ofNat (List.length dA)) (0:Int) fA ([]:List ((List UInt8)×Int))
noncomputable def sh3 (l0:List Rule) (bA:List Int) (aA:List Int) (mB:List Node) (pB:Int) (iB:Int) (cA:List Node) (dA:List Lnk) (fA:List ((List UInt8)×Int)) (k2:Y2) (k3:Y3):R :=
  condB (ilt iB pB) (chk (inb iB (List.length mB)) (chk (inb iB (List.length bA)) (k3 l0 bA aA mB pB (IntKind.wrap .i64 (iB+(1:Int))) cA dA (mput kq_str fA ((List.getD mB (Int.toNat iB) d_node).nn) (List.getD bA (Int.toNat iB) d_int))))) (k2 l0 aA cA dA fA)
noncomputable def sh4 (l0:List Rule) (aA:List Int) (fA:List ((List UInt8)×Int)) (iA:List ((List UInt8)×Int)) (k7:Y7):R :=
  k7 l0 aA l0 (Int.ofNat (List.length l0)) (0:Int) fA iA
noncomputable def sh5 (l0:List Rule) (aA:List Int) (nB:List Lnk) (qB:Int) (jB:Int) (fA:List ((List UInt8)×Int)) (iA:List ((List UInt8)×Int)) (k4:Y4) (k5:Y5):R :=
  condB (ilt jB qB) (chk (inb jB (List.length nB)) (k5 l0 aA nB qB (IntKind.wrap .i64 (jB+(1:Int))) fA (mput kq_str iA ((List.getD nB (Int.toNat jB) d_link).ln) jB))) (k4 l0 aA fA iA)
noncomputable def sh6 (l0:List Rule) (aA:List Int) (fA:List ((List UInt8)×Int)) (iA:List ((List UInt8)×Int)) (sB:Y13):R :=
  chk (nle (List.length aA) 90000) (sB (aA) l0 (Int.ofNat (List.length l0)) (0:Int) fA iA ([]:List (Int×Bool)))
noncomputable def sh7 (l0:List Rule) (aA:List Int) (pA:List Rule) (rA:Int) (oA:Int) (fA:List ((List UInt8)×Int)) (iA:List ((List UInt8)×Int)) (k6:Y6) (tB:Y10):R :=
  condB (ilt oA rA) (chk (inb oA (List.length pA)) (tB l0 aA (mhas kq_str iA ((List.getD pA (Int.toNat oA) d_rule).rl)) pA rA oA ((List.getD pA (Int.toNat oA) d_rule).rw) (Int.ofNat (List.length ((List.getD pA (Int.toNat oA) d_rule).rw))) (0:Int) fA iA)) (k6 l0 aA fA iA)
noncomputable def sh8 (l0:List Rule) (aA:List Int) (pA:List Rule) (rA:Int) (oA:Int) (fA:List ((List UInt8)×Int)) (iA:List ((List UInt8)×Int)) (k7:Y7):R :=
  k7 l0 aA pA rA (IntKind.wrap .i64 (oA+(1:Int))) fA iA
noncomputable def sh9 (l0:List Rule) (aA:List Int) (qA:Bool) (pA:List Rule) (rA:Int) (oA:Int) (fA:List ((List UInt8)×Int)) (iA:List ((List UInt8)×Int)) (k8:Y8):R :=
  condB (!qA) (some ((.tup [(.ful 0),(.int .i64 (9:Int))]),[(0,.rows .int ([]:List Int))])) (k8 l0 aA pA rA oA fA iA)
noncomputable def sh10 (l0:List Rule) (aA:List Int) (qA:Bool) (pA:List Rule) (rA:Int) (oA:Int) (uA:List Cnd) (vA:Int) (tA:Int) (fA:List ((List UInt8)×Int)) (iA:List ((List UInt8)×Int)) (k9:Y9) (k11:Y11):R :=
  condB (ilt tA vA) (chk (inb tA (List.length uA)) (condB qA (k11 l0 aA (mhas kq_str fA ((List.getD uA (Int.toNat tA) d_cnd).cn)) pA rA oA uA vA tA fA iA) (k11 l0 aA false pA rA oA uA vA tA fA iA))) (k9 l0 aA qA pA rA oA fA iA)
noncomputable def sh11 (l0:List Rule) (aA:List Int) (qA:Bool) (pA:List Rule) (rA:Int) (oA:Int) (uA:List Cnd) (vA:Int) (tA:Int) (fA:List ((List UInt8)×Int)) (iA:List ((List UInt8)×Int)) (tB:Y10):R :=
  tB l0 aA qA pA rA oA uA vA (IntKind.wrap .i64 (tA+(1:Int))) fA iA
noncomputable def sh12 (hA:List Int):R :=
  some ((.tup [(.ful 0),(.int .i64 (0:Int))]),[(0,.rows .int hA)])
noncomputable def sh13 (hA:List Int) (lA:List Rule) (nA:Int) (kA:Int) (fA:List ((List UInt8)×Int)) (iA:List ((List UInt8)×Int)) (mA:List (Int×Bool)) (k12:Y12) (k14:Y14) (k15:Y15):R :=
  condB (ilt kA nA) (chk (inb kA (List.length lA)) (chk (nle (List.length (Rule.rw (List.getD lA (Int.toNat kA) d_rule))) 90000) (condB (!(!(List.any (Rule.rw (List.getD lA (Int.toNat kA) d_rule)) (failsM fA)))) (k14 hA lA nA kA fA iA mA) (condB (mgetD kq_int mA (mgetD kq_str iA ((List.getD lA (Int.toNat kA) d_rule).rl) d_int) d_bool) (chk (inb (mgetD kq_str iA ((List.getD lA (Int.toNat kA) d_rule).rl) d_int) (List.length hA)) (chk (nlt (Int.toNat (mgetD kq_str iA ((List.getD lA (Int.toNat kA) d_rule).rl) d_int)) (List.length hA)) (condB ((List.getD hA (Int.toNat (mgetD kq_str iA ((List.getD lA (Int.toNat kA) d_rule).rl) d_int)) d_int) != (List.getD lA (Int.toNat kA) d_rule).rs) (some ((.tup [(.ful 0),(.int .i64 (26:Int))]),[(0,.rows .int ([]:List Int))])) (k15 hA (mgetD kq_str iA ((List.getD lA (Int.toNat kA) d_rule).rl) d_int) lA nA kA ((List.getD lA (Int.toNat kA) d_rule).rn) ((List.getD lA (Int.toNat kA) d_rule).rw) ((List.getD lA (Int.toNat kA) d_rule).rl) ((List.getD lA (Int.toNat kA) d_rule).rs) fA iA mA)))) (k15 hA (mgetD kq_str iA ((List.getD lA (Int.toNat kA) d_rule).rl) d_int) lA nA kA ((List.getD lA (Int.toNat kA) d_rule).rn) ((List.getD lA (Int.toNat kA) d_rule).rw) ((List.getD lA (Int.toNat kA) d_rule).rl) ((List.getD lA (Int.toNat kA) d_rule).rs) fA iA mA))))) (k12 hA)
noncomputable def sh14 (hA:List Int) (lA:List Rule) (nA:Int) (kA:Int) (fA:List ((List UInt8)×Int)) (iA:List ((List UInt8)×Int)) (mA:List (Int×Bool)) (sB:Y13):R :=
  sB hA lA nA (IntKind.wrap .i64 (kA+(1:Int))) fA iA mA
noncomputable def sh15 (hA:List Int) (rB:Int) (lA:List Rule) (nA:Int) (kA:Int) (aB:List UInt8) (bB:List Cnd) (cB:List UInt8) (yA:Int) (fA:List ((List UInt8)×Int)) (iA:List ((List UInt8)×Int)) (mA:List (Int×Bool)) (k14:Y14):R :=
  chk (inb rB (List.length hA)) (chk (nlt (Int.toNat rB) (List.length hA)&&true) (k14 (List.set hA (Int.toNat rB) yA) lA nA kA fA iA (mput kq_int mA rB true)))
noncomputable def it3 (Kb2:Kont U El) (n:Nat):Kont U El:=iter nm3 (fun st' K'=>exec X (cdp [1,1,1,0,1,0,0] bd) (.seq none .d (.seq none .d (.seq none (.block (.seq none .d (.region [(7,56)]))) .d))) st' K' (Eblk 1 (cutK nm2 Kb2) (fun _ _=>none)) RR) n
noncomputable def it5 (Kb4:Kont U El) (n:Nat):Kont U El:=iter nm5 (fun st' K'=>exec X (cdp [1,1,1,1,1,0,1,0,0] bd) .d st' K' (Eblk 3 (cutK nm4 Kb4) (fun _ _=>none)) RR) n
noncomputable def it7 (Kb6:Kont U El) (n:Nat):Kont U El:=iter nm7 (fun st' K'=>exec X (cdp [1,1,1,1,1,1,0,1,0,0] bd) (.seq none .d (.seq none .d (.seq (some nm8) (.block (.seq none .d (.seq none .d (.seq (some nm9) (.seq none .d (.block (.loop nm10 (.seq none .d (.seq none .d (.seq (some nm11) .d .d)))))) .d)))) .d))) st' K' (Eblk 5 (cutK nm6 Kb6) (fun _ _=>none)) RR) n
noncomputable def it10 (Kb6 Kb8 Kb9:Kont U El) (n:Nat):Kont U El:=iter nm10 (fun st' K'=>exec X (cdp [1,1,1,1,1,1,0,1,0,0,1,1,0,0,1,1,0,1,0,0] bd) (.seq none .d (.seq none .d (.seq (some nm11) .d .d))) st' K' (Eblk 7 (cutK nm9 Kb9) (Eblk 6 (cutK nm8 Kb8) (Eblk 5 (cutK nm6 Kb6) (fun _ _=>none)))) RR) n
noncomputable def it13 (Kb12:Kont U El) (n:Nat):Kont U El:=iter nm13 (fun st' K'=>exec X (cdp [1,1,1,1,1,1,1,1,1,0,1,0,0] bd) (.seq none .d (.seq none .d (.seq (some nm14) (.block (.seq none .d (.seq none .d (.seq none .d (.seq (some nm15) .d .d))))) .d))) st' K' (Eblk 9 (cutK nm12 Kb12) (fun _ _=>none)) RR) n
noncomputable def ct1:Kont U El:=fun st=>exec X (cdp [1,1] bd) (.seq none .d (.seq (some nm2) (.seq none .d (.block (.loop nm3 (.seq none .d (.seq none .d (.seq none (.block (.seq none .d (.region [(7,56)]))) .d)))))) (.seq none .d (.seq (some nm4) (.seq none .d (.block (.loop nm5 .d))) (.seq (some nm6) (.seq none .d (.block (.loop nm7 (.seq none .d (.seq none .d (.seq (some nm8) (.block (.seq none .d (.seq none .d (.seq (some nm9) (.seq none .d (.block (.loop nm10 (.seq none .d (.seq none .d (.seq (some nm11) .d .d)))))) .d)))) .d)))))) (.seq none .d (.seq none .d (.seq (some nm12) (.seq none .d (.block (.loop nm13 (.seq none .d (.seq none .d (.seq (some nm14) (.block (.seq none .d (.seq none .d (.seq none .d (.seq (some nm15) .d .d))))) .d)))))) .d)))))))) st RR (fun _ _=>none) RR
noncomputable def ct2:Kont U El:=fun st=>exec X (cdp [1,1,1,1] bd) (.seq none .d (.seq (some nm4) (.seq none .d (.block (.loop nm5 .d))) (.seq (some nm6) (.seq none .d (.block (.loop nm7 (.seq none .d (.seq none .d (.seq (some nm8) (.block (.seq none .d (.seq none .d (.seq (some nm9) (.seq none .d (.block (.loop nm10 (.seq none .d (.seq none .d (.seq (some nm11) .d .d)))))) .d)))) .d)))))) (.seq none .d (.seq none .d (.seq (some nm12) (.seq none .d (.block (.loop nm13 (.seq none .d (.seq none .d (.seq (some nm14) (.block (.seq none .d (.seq none .d (.seq none .d (.seq (some nm15) .d .d))))) .d)))))) .d)))))) st RR (fun _ _=>none) RR
noncomputable def ct4:Kont U El:=fun st=>exec X (cdp [1,1,1,1,1,1] bd) (.seq (some nm6) (.seq none .d (.block (.loop nm7 (.seq none .d (.seq none .d (.seq (some nm8) (.block (.seq none .d (.seq none .d (.seq (some nm9) (.seq none .d (.block (.loop nm10 (.seq none .d (.seq none .d (.seq (some nm11) .d .d)))))) .d)))) .d)))))) (.seq none .d (.seq none .d (.seq (some nm12) (.seq none .d (.block (.loop nm13 (.seq none .d (.seq none .d (.seq (some nm14) (.block (.seq none .d (.seq none .d (.seq none .d (.seq (some nm15) .d .d))))) .d)))))) .d)))) st RR (fun _ _=>none) RR
noncomputable def ct6:Kont U El:=fun st=>exec X (cdp [1,1,1,1,1,1,1] bd) (.seq none .d (.seq none .d (.seq (some nm12) (.seq none .d (.block (.loop nm13 (.seq none .d (.seq none .d (.seq (some nm14) (.block (.seq none .d (.seq none .d (.seq none .d (.seq (some nm15) .d .d))))) .d)))))) .d))) st RR (fun _ _=>none) RR
noncomputable def ct8 (Kb6 Kb7:Kont U El):Kont U El:=fun st=>exec X (cdp [1,1,1,1,1,1,0,1,0,0,1,1,1] bd) .d st (cutK nm7 Kb7) (Eblk 5 (cutK nm6 Kb6) (fun _ _=>none)) RR
noncomputable def ct9 (Kb6 Kb8:Kont U El):Kont U El:=fun st=>exec X (cdp [1,1,1,1,1,1,0,1,0,0,1,1,0,0,1,1,1] bd) .d st (cutK nm8 Kb8) (Eblk 6 (cutK nm8 Kb8) (Eblk 5 (cutK nm6 Kb6) (fun _ _=>none))) RR
noncomputable def ct11 (Kb6 Kb8 Kb9 Kb10:Kont U El):Kont U El:=fun st=>exec X (cdp [1,1,1,1,1,1,0,1,0,0,1,1,0,0,1,1,0,1,0,0,1,1,1] bd) .d st (cutK nm10 Kb10) (Eblk 7 (cutK nm9 Kb9) (Eblk 6 (cutK nm8 Kb8) (Eblk 5 (cutK nm6 Kb6) (fun _ _=>none)))) RR
noncomputable def ct12:Kont U El:=fun st=>exec X (cdp [1,1,1,1,1,1,1,1,1,1] bd) .d st RR (fun _ _=>none) RR
noncomputable def ct14 (Kb12 Kb13:Kont U El):Kont U El:=fun st=>exec X (cdp [1,1,1,1,1,1,1,1,1,0,1,0,0,1,1,1] bd) .d st (cutK nm13 Kb13) (Eblk 9 (cutK nm12 Kb12) (fun _ _=>none)) RR
noncomputable def ct15 (Kb12 Kb14:Kont U El):Kont U El:=fun st=>exec X (cdp [1,1,1,1,1,1,1,1,1,0,1,0,0,1,1,0,0,1,1,1,1] bd) .d st (cutK nm14 Kb14) (Eblk 10 (cutK nm14 Kb14) (Eblk 9 (cutK nm12 Kb12) (fun _ _=>none))) RR
theorem P0 (l n v bf):exec X (cdp [] bd) (.seq none .d (.seq (some nm1) .d (.seq none .d (.seq (some nm2) (.seq none .d (.block (.loop nm3 (.seq none .d (.seq none .d (.seq none (.block (.seq none .d (.region [(7,56)]))) .d)))))) (.seq none .d (.seq (some nm4) (.seq none .d (.block (.loop nm5 .d))) (.seq (some nm6) (.seq none .d (.block (.loop nm7 (.seq none .d (.seq none .d (.seq (some nm8) (.block (.seq none .d (.seq none .d (.seq (some nm9) (.seq none .d (.block (.loop nm10 (.seq none .d (.seq none .d (.seq (some nm11) .d .d)))))) .d)))) .d)))))) (.seq none .d (.seq none .d (.seq (some nm12) (.seq none .d (.block (.loop nm13 (.seq none .d (.seq none .d (.seq (some nm14) (.block (.seq none .d (.seq none .d (.seq none .d (.seq (some nm15) .d .d))))) .d)))))) .d)))))))))) (fr0 l n v bf) RR (fun _ _=>none) RR=sh0 l n v bf (fun y0 y1 y2 y3 y4=>(hid ct1) (fr1 y0 y1 y2 y3 y4)):=by kernel_rfl
theorem P1 (l0 bA aA cA dA):ct1 (fr1 l0 bA aA cA dA)=sh1 l0 bA aA cA dA (fun y0 y1 y2 y3 y4 y5 y6 y7 y8=>(hid (it3 (hid ct2) 100000)) (fr3 y0 y1 y2 y3 y4 y5 y6 y7 y8)):=by kernel_rfl
theorem P2 (l0 aA cA dA fA):ct2 (fr2 l0 aA cA dA fA)=sh2 l0 aA cA dA fA (fun y0 y1 y2 y3 y4 y5 y6=>(hid (it5 (hid ct4) 100000)) (fr5 y0 y1 y2 y3 y4 y5 y6)):=by kernel_rfl
theorem P3 (l0 bA aA mB pB iB cA dA fA) (Kb2 Kb3:Kont U El):exec X (cdp [1,1,1,0,1,0,0] bd) (.seq none .d (.seq none .d (.seq none (.block (.seq none .d (.region [(7,56)]))) .d))) (fr3 l0 bA aA mB pB iB cA dA fA) (cutK nm3 Kb3) (Eblk 1 (cutK nm2 Kb2) (fun _ _=>none)) RR=sh3 l0 bA aA mB pB iB cA dA fA (fun y0 y1 y2 y3 y4=>Kb2 (fr2 y0 y1 y2 y3 y4)) (fun y0 y1 y2 y3 y4 y5 y6 y7 y8=>Kb3 (fr3 y0 y1 y2 y3 y4 y5 y6 y7 y8)):=by kernel_rfl
theorem P4 (l0 aA fA iA):ct4 (fr4 l0 aA fA iA)=sh4 l0 aA fA iA (fun y0 y1 y2 y3 y4 y5 y6=>(hid (it7 (hid ct6) 100000)) (fr7 y0 y1 y2 y3 y4 y5 y6)):=by kernel_rfl
theorem P5 (l0 aA nB qB jB fA iA) (Kb4 Kb5:Kont U El):exec X (cdp [1,1,1,1,1,0,1,0,0] bd) .d (fr5 l0 aA nB qB jB fA iA) (cutK nm5 Kb5) (Eblk 3 (cutK nm4 Kb4) (fun _ _=>none)) RR=sh5 l0 aA nB qB jB fA iA (fun y0 y1 y2 y3=>Kb4 (fr4 y0 y1 y2 y3)) (fun y0 y1 y2 y3 y4 y5 y6=>Kb5 (fr5 y0 y1 y2 y3 y4 y5 y6)):=by kernel_rfl
theorem P6 (l0 aA fA iA):ct6 (fr6 l0 aA fA iA)=sh6 l0 aA fA iA (fun y0 y1 y2 y3 y4 y5 y6=>(hid (it13 (hid ct12) 100000)) (fr13 y0 y1 y2 y3 y4 y5 y6)):=by kernel_rfl
theorem P7 (l0 aA pA rA oA fA iA) (Kb6 Kb7:Kont U El):exec X (cdp [1,1,1,1,1,1,0,1,0,0] bd) (.seq none .d (.seq none .d (.seq (some nm8) (.block (.seq none .d (.seq none .d (.seq (some nm9) (.seq none .d (.block (.loop nm10 (.seq none .d (.seq none .d (.seq (some nm11) .d .d)))))) .d)))) .d))) (fr7 l0 aA pA rA oA fA iA) (cutK nm7 Kb7) (Eblk 5 (cutK nm6 Kb6) (fun _ _=>none)) RR=sh7 l0 aA pA rA oA fA iA (fun y0 y1 y2 y3=>Kb6 (fr6 y0 y1 y2 y3)) (fun y0 y1 y2 y3 y4 y5 y6 y7 y8 y9 y10=>(hid (it10 Kb6 (hid (ct8 Kb6 Kb7)) (hid (ct9 Kb6 (hid (ct8 Kb6 Kb7)))) 100000)) (fr10 y0 y1 y2 y3 y4 y5 y6 y7 y8 y9 y10)):=by kernel_rfl
theorem P8 (l0 aA pA rA oA fA iA) (Kb6 Kb7:Kont U El):ct8 Kb6 Kb7 (fr8 l0 aA pA rA oA fA iA)=sh8 l0 aA pA rA oA fA iA (fun y0 y1 y2 y3 y4 y5 y6=>Kb7 (fr7 y0 y1 y2 y3 y4 y5 y6)):=by kernel_rfl
theorem P9 (l0 aA qA pA rA oA fA iA) (Kb6 Kb8:Kont U El):ct9 Kb6 Kb8 (fr9 l0 aA qA pA rA oA fA iA)=sh9 l0 aA qA pA rA oA fA iA (fun y0 y1 y2 y3 y4 y5 y6=>Kb8 (fr8 y0 y1 y2 y3 y4 y5 y6)):=by kernel_rfl
theorem P10 (l0 aA qA pA rA oA uA vA tA fA iA) (Kb6 Kb8 Kb9 Kb10:Kont U El):exec X (cdp [1,1,1,1,1,1,0,1,0,0,1,1,0,0,1,1,0,1,0,0] bd) (.seq none .d (.seq none .d (.seq (some nm11) .d .d))) (fr10 l0 aA qA pA rA oA uA vA tA fA iA) (cutK nm10 Kb10) (Eblk 7 (cutK nm9 Kb9) (Eblk 6 (cutK nm8 Kb8) (Eblk 5 (cutK nm6 Kb6) (fun _ _=>none)))) RR=sh10 l0 aA qA pA rA oA uA vA tA fA iA (fun y0 y1 y2 y3 y4 y5 y6 y7=>Kb9 (fr9 y0 y1 y2 y3 y4 y5 y6 y7)) (fun y0 y1 y2 y3 y4 y5 y6 y7 y8 y9 y10=>(hid (ct11 Kb6 Kb8 Kb9 Kb10)) (fr11 y0 y1 y2 y3 y4 y5 y6 y7 y8 y9 y10)):=by kernel_rfl
theorem P11 (l0 aA qA pA rA oA uA vA tA fA iA) (Kb6 Kb8 Kb9 Kb10:Kont U El):ct11 Kb6 Kb8 Kb9 Kb10 (fr11 l0 aA qA pA rA oA uA vA tA fA iA)=sh11 l0 aA qA pA rA oA uA vA tA fA iA (fun y0 y1 y2 y3 y4 y5 y6 y7 y8 y9 y10=>Kb10 (fr10 y0 y1 y2 y3 y4 y5 y6 y7 y8 y9 y10)):=by kernel_rfl
theorem P12 (hA):ct12 (fr12 hA)=sh12 hA:=by kernel_rfl
theorem P13 (hA lA nA kA fA iA mA) (Kb12 Kb13:Kont U El):exec X (cdp [1,1,1,1,1,1,1,1,1,0,1,0,0] bd) (.seq none .d (.seq none .d (.seq (some nm14) (.block (.seq none .d (.seq none .d (.seq none .d (.seq (some nm15) .d .d))))) .d))) (fr13 hA lA nA kA fA iA mA) (cutK nm13 Kb13) (Eblk 9 (cutK nm12 Kb12) (fun _ _=>none)) RR=sh13 hA lA nA kA fA iA mA (fun y0=>Kb12 (fr12 y0)) (fun y0 y1 y2 y3 y4 y5 y6=>(hid (ct14 Kb12 Kb13)) (fr14 y0 y1 y2 y3 y4 y5 y6)) (fun y0 y1 y2 y3 y4 y5 y6 y7 y8 y9 y10 y11=>(hid (ct15 Kb12 (hid (ct14 Kb12 Kb13)))) (fr15 y0 y1 y2 y3 y4 y5 y6 y7 y8 y9 y10 y11)):=by kernel_rfl
theorem P14 (hA lA nA kA fA iA mA) (Kb12 Kb13:Kont U El):ct14 Kb12 Kb13 (fr14 hA lA nA kA fA iA mA)=sh14 hA lA nA kA fA iA mA (fun y0 y1 y2 y3 y4 y5 y6=>Kb13 (fr13 y0 y1 y2 y3 y4 y5 y6)):=by kernel_rfl
theorem P15 (hA rB lA nA kA aB bB cB yA fA iA mA) (Kb12 Kb14:Kont U El):ct15 Kb12 Kb14 (fr15 hA rB lA nA kA aB bB cB yA fA iA mA)=sh15 hA rB lA nA kA aB bB cB yA fA iA mA (fun y0 y1 y2 y3 y4 y5 y6=>Kb14 (fr14 y0 y1 y2 y3 y4 y5 y6)):=by kernel_rfl
noncomputable def f12 (hA:List Int):R:=sh12 hA
noncomputable def f14 (sB:Y13) (hA:List Int) (lA:List Rule) (nA:Int) (kA:Int) (fA:List ((List UInt8)×Int)) (iA:List ((List UInt8)×Int)) (mA:List (Int×Bool)):R:=sh14 hA lA nA kA fA iA mA sB
noncomputable def f15 (sB:Y13) (hA:List Int) (rB:Int) (lA:List Rule) (nA:Int) (kA:Int) (aB:List UInt8) (bB:List Cnd) (cB:List UInt8) (yA:Int) (fA:List ((List UInt8)×Int)) (iA:List ((List UInt8)×Int)) (mA:List (Int×Bool)):R:=sh15 hA rB lA nA kA aB bB cB yA fA iA mA (f14 sB)
noncomputable def f13:Nat→Y13
  | 0=>fun _ _ _ _ _ _ _=>none
  | n+1=>fun hA lA nA kA fA iA mA=>sh13 hA lA nA kA fA iA mA f12 (f14 (f13 n)) (f15 (f13 n))
noncomputable def f6 (l0:List Rule) (aA:List Int) (fA:List ((List UInt8)×Int)) (iA:List ((List UInt8)×Int)):R:=sh6 l0 aA fA iA (f13 100000)
noncomputable def f8 (k7:Y7) (l0:List Rule) (aA:List Int) (pA:List Rule) (rA:Int) (oA:Int) (fA:List ((List UInt8)×Int)) (iA:List ((List UInt8)×Int)):R:=sh8 l0 aA pA rA oA fA iA k7
noncomputable def f9 (k7:Y7) (l0:List Rule) (aA:List Int) (qA:Bool) (pA:List Rule) (rA:Int) (oA:Int) (fA:List ((List UInt8)×Int)) (iA:List ((List UInt8)×Int)):R:=sh9 l0 aA qA pA rA oA fA iA (f8 k7)
noncomputable def f11 (k7:Y7) (tB:Y10) (l0:List Rule) (aA:List Int) (qA:Bool) (pA:List Rule) (rA:Int) (oA:Int) (uA:List Cnd) (vA:Int) (tA:Int) (fA:List ((List UInt8)×Int)) (iA:List ((List UInt8)×Int)):R:=sh11 l0 aA qA pA rA oA uA vA tA fA iA tB
noncomputable def f10 (k7:Y7):Nat→Y10
  | 0=>fun _ _ _ _ _ _ _ _ _ _ _=>none
  | n+1=>fun l0 aA qA pA rA oA uA vA tA fA iA=>sh10 l0 aA qA pA rA oA uA vA tA fA iA (f9 k7) (f11 k7 (f10 k7 n))
noncomputable def f7:Nat→Y7
  | 0=>fun _ _ _ _ _ _ _=>none
  | n+1=>fun l0 aA pA rA oA fA iA=>sh7 l0 aA pA rA oA fA iA f6 (f10 (f7 n) 100000)
noncomputable def f4 (l0:List Rule) (aA:List Int) (fA:List ((List UInt8)×Int)) (iA:List ((List UInt8)×Int)):R:=sh4 l0 aA fA iA (f7 100000)
noncomputable def f5:Nat→Y5
  | 0=>fun _ _ _ _ _ _ _=>none
  | n+1=>fun l0 aA nB qB jB fA iA=>sh5 l0 aA nB qB jB fA iA f4 (f5 n)
noncomputable def f2 (l0:List Rule) (aA:List Int) (cA:List Node) (dA:List Lnk) (fA:List ((List UInt8)×Int)):R:=sh2 l0 aA cA dA fA (f5 100000)
noncomputable def f3:Nat→Y3
  | 0=>fun _ _ _ _ _ _ _ _ _=>none
  | n+1=>fun l0 bA aA mB pB iB cA dA fA=>sh3 l0 bA aA mB pB iB cA dA fA f2 (f3 n)
noncomputable def f1 (l0:List Rule) (bA:List Int) (aA:List Int) (cA:List Node) (dA:List Lnk):R:=sh1 l0 bA aA cA dA (f3 100000)
noncomputable def f0 (l:List Rule) (n:Net) (v:List Int) (bf:List Int):R:=sh0 l n v bf f1
theorem T12 (hA):(hid ct12) (fr12 hA)=f12 hA:=by
  refine (congrFun (hid_eq _) _).trans <| (P12 hA).trans ?_
  show _=sh12 hA
  rfl
theorem T14 (KL13:Kont U El) (sB:Y13) (h13:∀ hA lA nA kA fA iA mA,KL13 (fr13 hA lA nA kA fA iA mA)=sB hA lA nA kA fA iA mA) (hA lA nA kA fA iA mA):(hid (ct14 (hid ct12) KL13)) (fr14 hA lA nA kA fA iA mA)=f14 sB hA lA nA kA fA iA mA:=by
  refine (congrFun (hid_eq _) _).trans <| (P14 hA lA nA kA fA iA mA (hid ct12) KL13).trans ?_
  show _=sh14 hA lA nA kA fA iA mA sB
  simp only [h13]
theorem T15 (KL13:Kont U El) (sB:Y13) (h13:∀ hA lA nA kA fA iA mA,KL13 (fr13 hA lA nA kA fA iA mA)=sB hA lA nA kA fA iA mA) (hA rB lA nA kA aB bB cB yA fA iA mA):(hid (ct15 (hid ct12) (hid (ct14 (hid ct12) KL13)))) (fr15 hA rB lA nA kA aB bB cB yA fA iA mA)=f15 sB hA rB lA nA kA aB bB cB yA fA iA mA:=by
  refine (congrFun (hid_eq _) _).trans <| (P15 hA rB lA nA kA aB bB cB yA fA iA mA (hid ct12) (hid (ct14 (hid ct12) KL13))).trans ?_
  show _=sh15 hA rB lA nA kA aB bB cB yA fA iA mA (f14 sB)
  simp only [T14 KL13 sB h13]
theorem T13:∀ (n:Nat),∀ hA lA nA kA fA iA mA,it13 (hid ct12) n (fr13 hA lA nA kA fA iA mA)=f13 n hA lA nA kA fA iA mA:=by
  intro n
  induction n with
  | zero=>intros; rfl
  | succ n ih =>
    intro hA lA nA kA fA iA mA
    refine (P13 hA lA nA kA fA iA mA (hid ct12) (it13 (hid ct12) n)).trans ?_
    show _=sh13 hA lA nA kA fA iA mA f12 (f14 (f13 n)) (f15 (f13 n))
    simp only [T12,T14 (it13 (hid ct12) n) (f13 n) ih,T15 (it13 (hid ct12) n) (f13 n) ih]
theorem H13 (hA lA nA kA fA iA mA):hid (it13 (hid ct12) 100000) (fr13 hA lA nA kA fA iA mA)=f13 100000 hA lA nA kA fA iA mA:=(congrFun (hid_eq _) _).trans (T13 100000 hA lA nA kA fA iA mA)
theorem T6 (l0 aA fA iA):(hid ct6) (fr6 l0 aA fA iA)=f6 l0 aA fA iA:=by
  refine (congrFun (hid_eq _) _).trans <| (P6 l0 aA fA iA).trans ?_
  show _=sh6 l0 aA fA iA (f13 100000)
  simp only [H13]
theorem T8 (KL7:Kont U El) (k7:Y7) (h7:∀ l0 aA pA rA oA fA iA,KL7 (fr7 l0 aA pA rA oA fA iA)=k7 l0 aA pA rA oA fA iA) (l0 aA pA rA oA fA iA):(hid (ct8 (hid ct6) KL7)) (fr8 l0 aA pA rA oA fA iA)=f8 k7 l0 aA pA rA oA fA iA:=by
  refine (congrFun (hid_eq _) _).trans <| (P8 l0 aA pA rA oA fA iA (hid ct6) KL7).trans ?_
  show _=sh8 l0 aA pA rA oA fA iA k7
  simp only [h7]
theorem T9 (KL7:Kont U El) (k7:Y7) (h7:∀ l0 aA pA rA oA fA iA,KL7 (fr7 l0 aA pA rA oA fA iA)=k7 l0 aA pA rA oA fA iA) (l0 aA qA pA rA oA fA iA):(hid (ct9 (hid ct6) (hid (ct8 (hid ct6) KL7)))) (fr9 l0 aA qA pA rA oA fA iA)=f9 k7 l0 aA qA pA rA oA fA iA:=by
  refine (congrFun (hid_eq _) _).trans <| (P9 l0 aA qA pA rA oA fA iA (hid ct6) (hid (ct8 (hid ct6) KL7))).trans ?_
  show _=sh9 l0 aA qA pA rA oA fA iA (f8 k7)
  simp only [T8 KL7 k7 h7]
theorem T11 (KL7:Kont U El) (KL10:Kont U El) (k7:Y7) (tB:Y10) (h7:∀ l0 aA pA rA oA fA iA,KL7 (fr7 l0 aA pA rA oA fA iA)=k7 l0 aA pA rA oA fA iA) (h10:∀ l0 aA qA pA rA oA uA vA tA fA iA,KL10 (fr10 l0 aA qA pA rA oA uA vA tA fA iA)=tB l0 aA qA pA rA oA uA vA tA fA iA) (l0 aA qA pA rA oA uA vA tA fA iA):(hid (ct11 (hid ct6) (hid (ct8 (hid ct6) KL7)) (hid (ct9 (hid ct6) (hid (ct8 (hid ct6) KL7)))) KL10)) (fr11 l0 aA qA pA rA oA uA vA tA fA iA)=f11 k7 tB l0 aA qA pA rA oA uA vA tA fA iA:=by
  refine (congrFun (hid_eq _) _).trans <| (P11 l0 aA qA pA rA oA uA vA tA fA iA (hid ct6) (hid (ct8 (hid ct6) KL7)) (hid (ct9 (hid ct6) (hid (ct8 (hid ct6) KL7)))) KL10).trans ?_
  show _=sh11 l0 aA qA pA rA oA uA vA tA fA iA tB
  simp only [h10]
theorem T10 (KL7:Kont U El) (k7:Y7) (h7:∀ l0 aA pA rA oA fA iA,KL7 (fr7 l0 aA pA rA oA fA iA)=k7 l0 aA pA rA oA fA iA):∀ (n:Nat),∀ l0 aA qA pA rA oA uA vA tA fA iA,it10 (hid ct6) (hid (ct8 (hid ct6) KL7)) (hid (ct9 (hid ct6) (hid (ct8 (hid ct6) KL7)))) n (fr10 l0 aA qA pA rA oA uA vA tA fA iA)=f10 k7 n l0 aA qA pA rA oA uA vA tA fA iA:=by
  intro n
  induction n with
  | zero=>intros; rfl
  | succ n ih =>
    intro l0 aA qA pA rA oA uA vA tA fA iA
    refine (P10 l0 aA qA pA rA oA uA vA tA fA iA (hid ct6) (hid (ct8 (hid ct6) KL7)) (hid (ct9 (hid ct6) (hid (ct8 (hid ct6) KL7)))) (it10 (hid ct6) (hid (ct8 (hid ct6) KL7)) (hid (ct9 (hid ct6) (hid (ct8 (hid ct6) KL7)))) n)).trans ?_
    show _=sh10 l0 aA qA pA rA oA uA vA tA fA iA (f9 k7) (f11 k7 (f10 k7 n))
    simp only [T9 KL7 k7 h7,T11 KL7 (it10 (hid ct6) (hid (ct8 (hid ct6) KL7)) (hid (ct9 (hid ct6) (hid (ct8 (hid ct6) KL7)))) n) k7 (f10 k7 n) h7 ih]
theorem H10 (KL7:Kont U El) (k7:Y7) (h7:∀ l0 aA pA rA oA fA iA,KL7 (fr7 l0 aA pA rA oA fA iA)=k7 l0 aA pA rA oA fA iA) (l0 aA qA pA rA oA uA vA tA fA iA):hid (it10 (hid ct6) (hid (ct8 (hid ct6) KL7)) (hid (ct9 (hid ct6) (hid (ct8 (hid ct6) KL7)))) 100000) (fr10 l0 aA qA pA rA oA uA vA tA fA iA)=f10 k7 100000 l0 aA qA pA rA oA uA vA tA fA iA:=(congrFun (hid_eq _) _).trans (T10 KL7 k7 h7 100000 l0 aA qA pA rA oA uA vA tA fA iA)
theorem T7:∀ (n:Nat),∀ l0 aA pA rA oA fA iA,it7 (hid ct6) n (fr7 l0 aA pA rA oA fA iA)=f7 n l0 aA pA rA oA fA iA:=by
  intro n
  induction n with
  | zero=>intros; rfl
  | succ n ih =>
    intro l0 aA pA rA oA fA iA
    refine (P7 l0 aA pA rA oA fA iA (hid ct6) (it7 (hid ct6) n)).trans ?_
    show _=sh7 l0 aA pA rA oA fA iA f6 (f10 (f7 n) 100000)
    simp only [T6,H10 (it7 (hid ct6) n) (f7 n) ih]
theorem H7 (l0 aA pA rA oA fA iA):hid (it7 (hid ct6) 100000) (fr7 l0 aA pA rA oA fA iA)=f7 100000 l0 aA pA rA oA fA iA:=(congrFun (hid_eq _) _).trans (T7 100000 l0 aA pA rA oA fA iA)
theorem T4 (l0 aA fA iA):(hid ct4) (fr4 l0 aA fA iA)=f4 l0 aA fA iA:=by
  refine (congrFun (hid_eq _) _).trans <| (P4 l0 aA fA iA).trans ?_
  show _=sh4 l0 aA fA iA (f7 100000)
  simp only [H7]
theorem T5:∀ (n:Nat),∀ l0 aA nB qB jB fA iA,it5 (hid ct4) n (fr5 l0 aA nB qB jB fA iA)=f5 n l0 aA nB qB jB fA iA:=by
  intro n
  induction n with
  | zero=>intros; rfl
  | succ n ih =>
    intro l0 aA nB qB jB fA iA
    refine (P5 l0 aA nB qB jB fA iA (hid ct4) (it5 (hid ct4) n)).trans ?_
    show _=sh5 l0 aA nB qB jB fA iA f4 (f5 n)
    simp only [T4,ih]
theorem H5 (l0 aA nB qB jB fA iA):hid (it5 (hid ct4) 100000) (fr5 l0 aA nB qB jB fA iA)=f5 100000 l0 aA nB qB jB fA iA:=(congrFun (hid_eq _) _).trans (T5 100000 l0 aA nB qB jB fA iA)
theorem T2 (l0 aA cA dA fA):(hid ct2) (fr2 l0 aA cA dA fA)=f2 l0 aA cA dA fA:=by
  refine (congrFun (hid_eq _) _).trans <| (P2 l0 aA cA dA fA).trans ?_
  show _=sh2 l0 aA cA dA fA (f5 100000)
  simp only [H5]
theorem T3:∀ (n:Nat),∀ l0 bA aA mB pB iB cA dA fA,it3 (hid ct2) n (fr3 l0 bA aA mB pB iB cA dA fA)=f3 n l0 bA aA mB pB iB cA dA fA:=by
  intro n
  induction n with
  | zero=>intros; rfl
  | succ n ih =>
    intro l0 bA aA mB pB iB cA dA fA
    refine (P3 l0 bA aA mB pB iB cA dA fA (hid ct2) (it3 (hid ct2) n)).trans ?_
    show _=sh3 l0 bA aA mB pB iB cA dA fA f2 (f3 n)
    simp only [T2,ih]
theorem H3 (l0 bA aA mB pB iB cA dA fA):hid (it3 (hid ct2) 100000) (fr3 l0 bA aA mB pB iB cA dA fA)=f3 100000 l0 bA aA mB pB iB cA dA fA:=(congrFun (hid_eq _) _).trans (T3 100000 l0 bA aA mB pB iB cA dA fA)
theorem T1 (l0 bA aA cA dA):(hid ct1) (fr1 l0 bA aA cA dA)=f1 l0 bA aA cA dA:=by
  refine (congrFun (hid_eq _) _).trans <| (P1 l0 bA aA cA dA).trans ?_
  show _=sh1 l0 bA aA cA dA (f3 100000)
  simp only [H3]
theorem T0 (l n v bf):exec X bd (.seq none .d (.seq (some nm1) .d (.seq none .d (.seq (some nm2) (.seq none .d (.block (.loop nm3 (.seq none .d (.seq none .d (.seq none (.block (.seq none .d (.region [(7,56)]))) .d)))))) (.seq none .d (.seq (some nm4) (.seq none .d (.block (.loop nm5 .d))) (.seq (some nm6) (.seq none .d (.block (.loop nm7 (.seq none .d (.seq none .d (.seq (some nm8) (.block (.seq none .d (.seq none .d (.seq (some nm9) (.seq none .d (.block (.loop nm10 (.seq none .d (.seq none .d (.seq (some nm11) .d .d)))))) .d)))) .d)))))) (.seq none .d (.seq none .d (.seq (some nm12) (.seq none .d (.block (.loop nm13 (.seq none .d (.seq none .d (.seq (some nm14) (.block (.seq none .d (.seq none .d (.seq none .d (.seq (some nm15) .d .d))))) .d)))))) .d)))))))))) (fr0 l n v bf) RR (fun _ _=>none) RR=f0 l n v bf:=by
  refine (P0 l n v bf).trans ?_
  show _=sh0 l n v bf f1
  simp only [T1]
theorem run (l n v bf):runFn X bd (.seq none .d (.seq (some nm1) .d (.seq none .d (.seq (some nm2) (.seq none .d (.block (.loop nm3 (.seq none .d (.seq none .d (.seq none (.block (.seq none .d (.region [(7,56)]))) .d)))))) (.seq none .d (.seq (some nm4) (.seq none .d (.block (.loop nm5 .d))) (.seq (some nm6) (.seq none .d (.block (.loop nm7 (.seq none .d (.seq none .d (.seq (some nm8) (.block (.seq none .d (.seq none .d (.seq (some nm9) (.seq none .d (.block (.loop nm10 (.seq none .d (.seq none .d (.seq (some nm11) .d .d)))))) .d)))) .d)))))) (.seq none .d (.seq none .d (.seq (some nm12) (.seq none .d (.block (.loop nm13 (.seq none .d (.seq none .d (.seq (some nm14) (.block (.seq none .d (.seq none .d (.seq none .d (.seq (some nm15) .d .d))))) .d)))))) .d)))))))))) nmR [8,9] [8] [(.lst .rule l),(.agg [(.lst .node n.nds),(.lst .link n.lks)]),(.lst .int v),(.lst .int bf)]=f0 l n v bf:=T0 l n v bf
theorem loop13 (n0 : Net) (l : List Rule) (hl : l.length ≤ 60) (hw : ∀ r ∈ l, r.rw.length ≤ 20) (am lm : List ((List UInt8) × Int)) (hm : ∀ r ∈ l, mgetD kq_str lm r.rl d_int = linkZ n0 r.rl) (hz : ∀ r ∈ l, 0 ≤ linkZ n0 r.rl ∧ linkZ n0 r.rl < (n0.lks.length : Int)) : ∀ (n i : Nat) (out : List Int) (st : List (Int × Bool)), l.length < n + i → i ≤ l.length → out.length = n0.lks.length →
    f13 n out l (Int.ofNat l.length) (i:Int) am lm st=outST (runS n0 am (l.drop i) out st):=by
  intro n
  induction n with
  | zero=>intro i out st h1 h2; omega
  | succ n ih =>
    intro i out st h1 h2 h3
    show sh13 out l (Int.ofNat l.length) (i:Int) am lm st f12 (f14 (f13 n)) (f15 (f13 n))=_
    unfold sh13
    by_cases hi:i < l.length
    · have hmem := List.getElem_mem hi
      have hr:=hw _ hmem
      obtain ⟨z1,z2⟩:=hz _ hmem
      obtain ⟨q,hq⟩:=Int.eq_ofNat_of_zero_le z1
      have hqo:q < out.length:=by omega
      have e1:f14 (f13 n) out l (Int.ofNat l.length) (i:Int) am lm st=outST (runS n0 am (l.drop (i+1)) out st):=by
        show f13 n out l (Int.ofNat l.length) (IntKind.wrap .i64 ((i:Int)+1)) am lm st=_
        rw [wrapS i (by omega)]
        exact ih (i+1) out st (by omega) hi h3
      have e2:f15 (f13 n) out (q:Int) l (Int.ofNat l.length) (i:Int) l[i].rn l[i].rw l[i].rl l[i].rs am lm st=outST (runS n0 am (l.drop (i+1)) (List.set out q l[i].rs) (mput kq_int st (q:Int) true)):=by
        show sh15 out (q:Int) l (Int.ofNat l.length) (i:Int) l[i].rn l[i].rw l[i].rl l[i].rs am lm st (f14 (f13 n))=_
        unfold sh15
        rw [inbT hqo,toNat_nat,nltT hqo]
        show f13 n (List.set out q l[i].rs) l (Int.ofNat l.length) (IntKind.wrap .i64 ((i:Int)+1)) am lm (mput kq_int st (q:Int) true)=_
        rw [wrapS i (by omega)]
        exact ih (i+1) _ _ (by omega) hi (by simpa using h3)
      rw [iltT (by simp; omega),inbT hi,toNat_nat i,getD_lt hi,drop_lt hi,nleT (show l[i].rw.length≤90000 by omega),hm _ hmem,hq,inbT hqo,toNat_nat q,nltT hqo,e1,e2]
      simp only [condT,chkT,runS]
      rw [hq,toNat_nat]
      cases List.any l[i].rw (failsM am) with
      | true=>rfl
      | false =>
        cases mgetD kq_int st (q:Int) d_bool with
        | false=>rfl
        | true =>
          cases List.getD out q d_int != l[i].rs<;>rfl
    · have : i = l.length := by omega
      subst this
      rw [iltF (by simp),List.drop_length]
      rfl
theorem loop10 (k7 : Y7) (l : List Rule) (bf : List Int) (x : List Rule) (L i : Int) (w : List Cnd) (am lm : List ((List UInt8) × Int)) (hw : w.length ≤ 90000) : ∀ (n j : Nat) (ok : Bool), w.length < n + j → j ≤ w.length → f10 k7 n l bf ok x L i w (Int.ofNat w.length) (j : Int) am lm = bif ok && List.all (w.drop j) (fun c => mhas kq_str am c.cn) then f8 k7 l bf x L i am lm else outS [] 9 := by
  intro n
  induction n with
  | zero=>intro j ok h1 h2; omega
  | succ n ih =>
    intro j ok h1 h2
    show sh10 l bf ok x L i w (Int.ofNat w.length) (j:Int) am lm (f9 k7) (f11 k7 (f10 k7 n))=_
    unfold sh10
    by_cases hj:j < w.length
    · have e : ∀ b : Bool, f11 k7 (f10 k7 n) l bf b x L i w (Int.ofNat w.length) (j : Int) am lm = bif b && List.all (w.drop (j + 1)) (fun c => mhas kq_str am c.cn) then f8 k7 l bf x L i am lm else outS [] 9 := fun b => by
        show f10 k7 n l bf b x L i w (Int.ofNat w.length) (IntKind.wrap .i64 ((j:Int)+1)) am lm=_
        rw [wrapS j (by omega)]
        exact ih (j+1) b (by omega) hj
      rw [iltT (by simp; omega),inbT hj,toNat_nat,getD_lt hj,e,e,drop_lt hj,List.all_cons]
      cases ok<;>cases mhas kq_str am w[j].cn<;>rfl
    · have : j = w.length := by omega
      subst this
      rw [iltF (by simp),List.drop_length]
      cases ok<;>rfl
theorem loop7 (l : List Rule) (bf : List Int) (am lm : List ((List UInt8) × Int)) (hl : l.length ≤ 60) (hw : ∀ r ∈ l, r.rw.length ≤ 20) : ∀ (n i : Nat), l.length < n + i → i ≤ l.length → f7 n l bf l (Int.ofNat l.length) (i : Int) am lm = bif List.all (l.drop i) (fun r => mhas kq_str lm r.rl && List.all r.rw (fun c => mhas kq_str am c.cn)) then f6 l bf am lm else outS [] 9 := by
  intro n
  induction n with
  | zero=>intro i h1 h2; omega
  | succ n ih =>
    intro i h1 h2
    show sh7 l bf l (Int.ofNat l.length) (i:Int) am lm f6 (f10 (f7 n) 100000)=_
    unfold sh7
    by_cases hi:i < l.length
    · have hmem := List.getElem_mem hi
      have hr:=hw _ hmem
      have e:=loop10 (f7 n) l bf l (Int.ofNat l.length) (i:Int) l[i].rw am lm (by omega) 100000 0 (mhas kq_str lm l[i].rl) (by omega) (by omega)
      have e2:f8 (f7 n) l bf l (Int.ofNat l.length) (i:Int) am lm=bif List.all (l.drop (i+1)) (fun r=>mhas kq_str lm r.rl&&List.all r.rw (fun c=>mhas kq_str am c.cn)) then f6 l bf am lm else outS [] 9:=by
        show f7 n l bf l (Int.ofNat l.length) (IntKind.wrap .i64 ((i:Int)+1)) am lm=_
        rw [wrapS i (by omega),ih (i+1) (by omega) hi]
      rw [iltT (by simp; omega),inbT hi,toNat_nat,getD_lt hi,show ((0:Int))=((0:Nat):Int) from rfl,e,e2,drop_lt hi,List.all_cons,List.drop_zero]
      cases mhas kq_str lm l[i].rl&&List.all l[i].rw (fun c=>mhas kq_str am c.cn)<;>rfl
    · have : i = l.length := by omega
      subst this
      rw [iltF (by simp),List.drop_length]
      rfl
theorem loop5 (l : List Rule) (bf : List Int) (n0 : Net) (hb : netB n0 = true) (hn : n0.lks.length ≤ 90000) (am : List ((List UInt8) × Int)) : ∀ (n i : Nat), n0.lks.length < n + i → i ≤ n0.lks.length → f5 n l bf n0.lks (Int.ofNat n0.lks.length) (i : Int) am (lnkM 0 (n0.lks.take i)) = f4 l bf am (lnkM 0 n0.lks) := by
  intro n
  induction n with
  | zero=>intro i h1 h2; omega
  | succ n ih =>
    intro i h1 h2
    show sh5 l bf n0.lks (Int.ofNat n0.lks.length) (i:Int) am (lnkM 0 (n0.lks.take i)) f4 (f5 n)=_
    unfold sh5
    by_cases hi:i < n0.lks.length
    · have h3 : mhas kq_str (lnkM 0 (n0.lks.take i)) n0.lks[i].ln = false := by unfold mhas; rw [mfind_lnk, link_new hb i hi]; rfl
      have h4:lnkM 0 (n0.lks.take i)++[(n0.lks[i].ln,(i:Int))]=lnkM 0 (n0.lks.take (i+1)):=by
        rw [take_lt hi,lnkM_snoc,List.length_take,Nat.zero_add,Nat.min_eq_left (by omega)]
      rw [iltT (by simp; omega),inbT hi,toNat_nat,getD_lt hi,mput_new h3,h4,wrapS i (by omega)]
      exact ih (i+1) (by omega) hi
    · have : i = n0.lks.length := by omega
      subst this
      rw [iltF (by simp),List.take_length]
      rfl
theorem loop3 (l : List Rule) (v bf : List Int) (n0 : Net) (hb : netB n0 = true) (hn : n0.nds.length ≤ 90000) (hv : v.length = n0.nds.length) : ∀ (n i : Nat), n0.nds.length < n + i → i ≤ n0.nds.length → f3 n l v bf n0.nds (Int.ofNat n0.nds.length) (i : Int) n0.nds n0.lks (List.zip ((namesL n0).take i) (v.take i)) = f2 l bf n0.nds n0.lks (List.zip (namesL n0) v) := by
  have hnl:(namesL n0).length=n0.nds.length:=by simp [namesL]
  intro n
  induction n with
  | zero=>intro i h1 h2; omega
  | succ n ih =>
    intro i h1 h2
    show sh3 l v bf n0.nds (Int.ofNat n0.nds.length) (i:Int) n0.nds n0.lks (List.zip ((namesL n0).take i) (v.take i)) f2 (f3 n)=_
    unfold sh3
    by_cases hi:i < n0.nds.length
    · have hv' : i < v.length := by omega
      have hni:i < (namesL n0).length:=by omega
      have hnm:(namesL n0)[i]=n0.nds[i].nn:=by simp [namesL]
      have h3:mhas kq_str (List.zip ((namesL n0).take i) (v.take i)) n0.nds[i].nn=false:=by
        rw [mhas_zip _ _ _ (by simp; omega),← hnm]
        have:=allI_iff.1 (dist_names hb) i _ (List.getElem?_eq_getElem hni)
        rw [Nat.zero_add] at this
        simpa using this
      have h4:List.zip ((namesL n0).take i) (v.take i)++[(n0.nds[i].nn,v[i])]=List.zip ((namesL n0).take (i+1)) (v.take (i+1)):=by
        rw [take_lt hni,take_lt hv',List.zip_append (by simp; omega),hnm]
        rfl
      rw [iltT (by simp; omega),inbT hi,inbT hv',toNat_nat,getD_lt hi,getD_lt hv',mput_new h3,h4,wrapS i (by omega)]
      exact ih (i+1) (by omega) hi
    · have : i = n0.nds.length := by omega
      subst this
      rw [iltF (by simp),List.take_of_length_le (by omega),List.take_of_length_le (by omega)]
      rfl
theorem elem_hasN (n:Net) (s:List UInt8):List.elem s (namesL n)=hasN n s:=by
  rw [Bool.eq_iff_iff]
  constructor
  · intro h
    rw [List.elem_iff] at h
    obtain ⟨x,hx,rfl⟩:=List.mem_map.1 h
    exact List.any_eq_true.2 ⟨x,hx,by simp [isNode]⟩
  · exact hasN_elem
theorem all_congr' {α:Type} {p q:α→Bool}:∀ {l:List α},(∀ x∈l,p x=q x)→List.all l p=List.all l q:=by
  intro l
  induction l with
  | nil=>intro _; rfl
  | cons x l ih=>intro h; rw [List.all_cons,List.all_cons,h x (by simp),ih fun y hy=>h y (by simp [hy])]
theorem known_maps {l:List Rule} {n:Net} {v:List Int} (hnl:(namesL n).length=v.length):List.all l (fun r=>mhas kq_str (lnkM 0 n.lks) r.rl&&List.all r.rw (fun c=>mhas kq_str (List.zip (namesL n) v) c.cn))=knownB l n:=by
  unfold knownB
  refine all_congr' fun r _ => ?_
  unfold knownR
  have e1:mhas kq_str (lnkM 0 n.lks) r.rl = !(ilt (linkZ n r.rl) 0):=by
    rw [ilt_ile0,Bool.not_not]
    unfold linkZ
    rw [findZ_any]
    unfold mhas
    rw [mfind_lnk]
    cases List.any n.lks (isLink r.rl)<;>rfl
  rw [e1]
  congr 1
  refine all_congr' fun c _ => ?_
  rw [mhas_zip _ _ _ hnl,elem_hasN]
theorem f0_eq (l:List Rule) (n:Net) (v bf:List Int) (h:(okN n&&nle (List.length bf) 90000)=true):f0 l n v bf=outS (setsL l n v bf) (setsE l n v bf):=by
  simp only [Bool.and_eq_true] at h
  obtain ⟨h0,hb0⟩:=h
  have hn1:=nleI (okN_nds h0); have hn2:=nleI (okN_lks h0)
  show sh0 l n v bf f1=_
  unfold sh0 setsL setsE
  rw [h0,hb0]
  cases h1:rulesB l with
  | false=>rfl
  | true =>
  cases h2:netB n with
  | false=>rfl
  | true =>
  by_cases hv:v.length=n.nds.length
  case neg=>rw [bneT hv,show Nat.beq v.length n.nds.length=false from Bool.eq_false_iff.2 fun h=>hv (Nat.eq_of_beq_eq_true h)]; rfl
  case pos =>
  rw [bneF hv,show Nat.beq v.length n.nds.length=true by rw [hv]; exact Nat.beq_refl _]
  by_cases hbf:bf.length=n.lks.length
  case neg=>rw [bneT hbf,show Nat.beq bf.length n.lks.length=false from Bool.eq_false_iff.2 fun h=>hbf (Nat.eq_of_beq_eq_true h)]; rfl
  case pos =>
  rw [bneF hbf,show Nat.beq bf.length n.lks.length=true by rw [hbf]; exact Nat.beq_refl _]
  cases h6:List.any bf notSet with
  | true=>rfl
  | false =>
  obtain ⟨g1,g2⟩:=rulesB_len h1
  have hw:∀ r∈l,r.rw.length≤20:=fun r hr=>(ruleB_len (g2 r hr)).1
  have hnl:(namesL n).length=v.length:=by rw [hv]; simp [namesL]
  show f1 l v bf n.nds n.lks=_
  show f3 100000 l v bf n.nds (Int.ofNat n.nds.length) 0 n.nds n.lks []=_
  refine (loop3 l v bf n h2 hn1 hv 100000 0 (by omega) (by omega)).trans ?_
  show f5 100000 l bf n.lks (Int.ofNat n.lks.length) 0 (List.zip (namesL n) v) []=_
  refine (loop5 l bf n h2 hn2 _ 100000 0 (by omega) (by omega)).trans ?_
  show f7 100000 l bf l (Int.ofNat l.length) ((0:Nat):Int) (List.zip (namesL n) v) (lnkM 0 n.lks)=_
  rw [loop7 l bf (List.zip (namesL n) v) (lnkM 0 n.lks) g1 hw 100000 0 (by omega) (by omega),List.drop_zero,known_maps hnl]
  cases h3:knownB l n with
  | false=>rfl
  | true =>
    have hlm:∀ r∈l,mfind kq_str (lnkM 0 n.lks) r.rl=some (linkZ n r.rl):=fun r hr=>by
      rw [mfind_lnk,(link_in (known_link h3 r hr)).2.2]; rfl
    show sh6 l bf (List.zip (namesL n) v) (lnkM 0 n.lks) (f13 100000)=_
    unfold sh6
    rw [hb0]
    have e:=loop13 n l g1 hw (List.zip (namesL n) v) (lnkM 0 n.lks) (fun r hr=>by unfold mgetD; rw [hlm r hr]; rfl) (fun r hr=>⟨(link_in (known_link h3 r hr)).1,(link_in (known_link h3 r hr)).2.1⟩) 100000 0 bf [] (by omega) (by omega) hbf
    rw [List.drop_zero] at e
    refine Eq.trans e ?_
    show outST (setsO l n v bf)=_
    unfold outST outS
    cases setsO l n v bf<;>rfl
theorem ok:CtxOk Tryz.prog X:=ctxOk tab (spC valid.spOk (spC nvalid.spOk (spC se1C.spOk (spC cloneI.spOk (spC uholds.spOk spN))))) dpN
theorem okM:MOk Tryz.prog X:=fun g sp h=>by cases h
theorem spec (l:List Rule) (n:Net) (v:List Int) (bf:List Int) (h:((okN n&&nle (List.length bf) 90000))=true):CallSpec Tryz.prog E 17 [(.lst .rule l),(.agg [(.lst .node n.nds),(.lst .link n.lks)]),(.lst .int v),(.lst .int bf)] (.tup [(.ful 0),(.int .i64 (setsE l n v bf))]) [(0,.rows .int (setsL l n v bf))] :=
  runFn_sound ok okM Tryz.call17 Tryz.func17 (by kernel_rfl) (by kernel_rfl) (by kernel_rfl) (by show 4≤160; decide) (by decide) (by rfl) ((run l n v bf).trans (f0_eq l n v bf h))
noncomputable def sp:Sp U El:=fun args k=>match args with
  | [.lst .rule l,.agg [.lst .node n_nds,.lst .link n_lks],.lst .int v,.lst .int bf]=>chk ((okN (⟨n_nds,n_lks⟩:Net)&&nle (List.length bf) 90000)) (k (.tup [(.ful 0),(.int .i64 (setsE l (⟨n_nds,n_lks⟩:Net) v bf))]) [(0,.rows .int (setsL l (⟨n_nds,n_lks⟩:Net) v bf))])
  | _=>none
theorem spOk:SpOk Tryz.prog E 17 sp where
  det:=fun vs=>by
    unfold sp
    split
    · exact det_c _ _ _
    · exact ⟨none,fun _=>rfl⟩
  ok:=fun vs k r h=>by
    unfold sp at h
    split at h
    · obtain ⟨h1, h2⟩ := chk_some h
      exact ⟨_,_,spec _ ⟨_,_⟩ _ _ h1,h2⟩
    · cases h
end usettings
theorem kq_int_iff (a b:Int):kq_int a b=true↔a=b:=by unfold kq_int; simp
end Go.Proofs.YtlkfbblapimhoaaGreatDoor
