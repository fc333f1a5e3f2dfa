import Derived.Test.YthdimnlkcgchoaaGreatVA
namespace Go.Proofs.YthdimnlkcgchoaaGreat
set_option linter.all false
set_option maxRecDepth 100000
noncomputable def okN (n:Net):Bool:=nle n.nds.length 90000&&(nle n.lks.length 90000&&List.all n.lks (fun x=>nle x.lv.length 90000))
noncomputable def nodeZ (n:Net) (s:List UInt8):Int:=findZ (isNode s) 0 n.nds
noncomputable def linkZ (n:Net) (s:List UInt8):Int:=findZ (isLink s) 0 n.lks
theorem okN_nds {n:Net} (h:okN n=true):nle n.nds.length 90000=true:=(Bool.and_eq_true_iff.1 h).1
theorem okN_lks {n:Net} (h:okN n=true):nle n.lks.length 90000=true:=(Bool.and_eq_true_iff.1 (Bool.and_eq_true_iff.1 h).2).1
theorem okN_lv {n:Net} (h:okN n=true):∀ x∈n.lks,nle x.lv.length 90000=true:=List.all_eq_true.1 (Bool.and_eq_true_iff.1 (Bool.and_eq_true_iff.1 h).2).2
namespace lg1
noncomputable def bd:Code:=(Tryz.f58.body).getD .skip
noncomputable def X:Ctx U El:=⟨E,tds,zeros,eqs,specOf [],100000,13,dspecOf [],fun _=>none,fun _=>none⟩
noncomputable def nmR:Norm U:=⟨[],[2],[],[],[],[],[]⟩
noncomputable def RR:Kont U El:=fun st=>normK nmR st (retFin [2] [])
noncomputable def fr0 (x:Node):St U El:=⟨[(0,(.agg [(.str x.nn),(.int .i64 x.nk),(.int .i64 x.nx),(.int .i64 x.ny),(.int .i64 x.ni),(.int .i64 x.ng),(.lst .knot x.nh),(.bool x.np),(.int .i64 x.nr)]))],[]⟩
noncomputable def sh0 (x:Node):R :=
 condB (ilt (110:Int) (Int.ofNat (List.length x.nh))) (some ((.bool true),[])) (some ((.bool (ilt (100:Int) (Int.ofNat (List.length x.nn)))),[]))
theorem P0 (x):exec X (cdp [] bd) .d (fr0 x) RR (fun _ _=>none) RR=sh0 x:=by kernel_rfl
noncomputable def f0 (x:Node):R:=sh0 x
theorem T0 (x):exec X bd .d (fr0 x) RR (fun _ _=>none) RR=f0 x:=by
 refine (P0 x).trans ?_
 show _=sh0 x
 rfl
theorem run (x):runFn X bd .d nmR [2] [] [(.agg [(.str x.nn),(.int .i64 x.nk),(.int .i64 x.nx),(.int .i64 x.ny),(.int .i64 x.ni),(.int .i64 x.ng),(.lst .knot x.nh),(.bool x.np),(.int .i64 x.nr)])]=f0 x:=T0 x
theorem f0_eq (x:Node):f0 x=outB (bigNode x):=cOr outB _ _
theorem ok:CtxOk Tryz.prog X:=ctxOk tab spN dpN
theorem okM:MOk Tryz.prog X:=fun g sp h=>by cases h
theorem spec (x:Node):CallSpec Tryz.prog E 58 [(.agg [(.str x.nn),(.int .i64 x.nk),(.int .i64 x.nx),(.int .i64 x.ny),(.int .i64 x.ni),(.int .i64 x.ng),(.lst .knot x.nh),(.bool x.np),(.int .i64 x.nr)])] (.bool (bigNode x)) [] :=
 rfs ok okM Tryz.call58 Tryz.func58 ((run x).trans (f0_eq x))
noncomputable def sp:Sp U El:=fun args k=>match args with
 | [.agg [.str x_nn,.int .i64 x_nk,.int .i64 x_nx,.int .i64 x_ny,.int .i64 x_ni,.int .i64 x_ng,.lst .knot x_nh,.bool x_np,.int .i64 x_nr]]=>k (.bool (bigNode (⟨x_nn,x_nk,x_nx,x_ny,x_ni,x_ng,x_nh,x_np,x_nr⟩:Node))) []
 | _=>none
theorem spOk:SpOk Tryz.prog E 58 sp:=⟨fun vs=>by unfold sp;split;exact ⟨some (_,_),fun _=>rfl⟩;exact ⟨none,fun _=>rfl⟩,fun vs k r h=>by unfold sp at h;split at h;exact ⟨_,_,spec ⟨_,_,_,_,_,_,_,_,_⟩,h⟩;cases h⟩
end lg1
namespace lg1X
noncomputable def bd:Code:=(Tryz.f109.body).getD .skip
noncomputable def X:Ctx U El:=⟨E,tds,zeros,eqs,specOf [(58,lg1.sp)],100000,19,dspecOf [],fun _=>none,fun _=>none⟩
noncomputable def nmR:Norm U:=⟨[],[4],[],[],[],[],[]⟩
noncomputable def RR:Kont U El:=fun st=>normK nmR st (retFin [4] [])
noncomputable def nm1:Norm U:=⟨[],[],[],[],[],[],[]⟩
noncomputable def nm2:Norm U:=⟨[],[0,1,7,8],[],[],[],[],[]⟩
abbrev Y1:=R
abbrev Y2:=(List Node)→Int→Int→R
noncomputable def fr0 (l:List Node):St U El:=⟨[(0,(.lst .node l)),(1,(.fn 58 [] []))],[]⟩
noncomputable def fr1:St U El:=⟨[],[]⟩
noncomputable def fr2 (s0:List Node) (x7:Int) (x8:Int):St U El:=⟨[(0,(.lst .node s0)),(1,(.fn 58 [] [])),(7,(.int .i64 x7)),(8,(.int .i64 x8))],[]⟩
noncomputable def sh0 (l:List Node) (k2:Y2):R :=
 k2 l (Int.ofNat (List.length l)) (0:Int)
noncomputable def sh1:R :=
 some ((.int .i64 (-1:Int)),[])
noncomputable def sh2 (s0:List Node) (x7:Int) (x8:Int) (k1:Y1) (k2:Y2):R :=
 condB (ilt x8 x7) (chk (inb x8 (List.length s0)) (condB (bigNode (List.getD s0 (Int.toNat x8) d_node)) (some ((.int .i64 x8),[])) (k2 s0 x7 (IntKind.wrap .i64 (x8+(1:Int)))))) (k1)
noncomputable def it2 (Kb1:Kont U El) (n:Nat):Kont U El:=iter nm2 (fun st' K'=>exec X (cdp [1,0,1,0,0] bd) .d st' K' (Eblk 0 (cutK nm1 Kb1) (fun _ _=>none)) RR) n
noncomputable def ct1:Kont U El:=fun st=>exec X (cdp [1,1] bd) .d st RR (fun _ _=>none) RR
theorem P0 (l):exec X (cdp [] bd) (.seq none .d (.seq (some nm1) (.seq none .d (.block (.loop nm2 .d))) .d)) (fr0 l) RR (fun _ _=>none) RR=sh0 l (fun y0 y1 y2=>(hid (it2 (hid ct1) 100000)) (fr2 y0 y1 y2)):=by kernel_rfl
theorem P1:ct1 (fr1)=sh1:=by kernel_rfl
theorem P2 (s0 x7 x8) (Kb1 Kb2:Kont U El):exec X (cdp [1,0,1,0,0] bd) .d (fr2 s0 x7 x8) (cutK nm2 Kb2) (Eblk 0 (cutK nm1 Kb1) (fun _ _=>none)) RR=sh2 s0 x7 x8 (Kb1 (fr1)) (fun y0 y1 y2=>Kb2 (fr2 y0 y1 y2)):=by kernel_rfl
noncomputable def f1:R:=sh1
noncomputable def f2:Nat→Y2
 | 0=>fun _ _ _=>none
 | n+1=>fun s0 x7 x8=>sh2 s0 x7 x8 f1 (f2 n)
noncomputable def f0 (l:List Node):R:=sh0 l (f2 100000)
theorem T1:(hid ct1) (fr1)=f1:=by
 refine (congrFun (hid_eq _) _).trans <| (P1).trans ?_
 show _=sh1
 rfl
theorem T2:∀ (n:Nat),∀ s0 x7 x8,it2 (hid ct1) n (fr2 s0 x7 x8)=f2 n s0 x7 x8:=by
  intro n
  induction n with
  | zero=>intros; rfl
  | succ n ih =>
    intro s0 x7 x8
    refine (P2 s0 x7 x8 (hid ct1) (it2 (hid ct1) n)).trans ?_
    show _=sh2 s0 x7 x8 f1 (f2 n)
    simp only [T1,ih]
theorem H2 (s0 x7 x8):hid (it2 (hid ct1) 100000) (fr2 s0 x7 x8)=f2 100000 s0 x7 x8:=(congrFun (hid_eq _) _).trans (T2 100000 s0 x7 x8)
theorem T0 (l):exec X bd (.seq none .d (.seq (some nm1) (.seq none .d (.block (.loop nm2 .d))) .d)) (fr0 l) RR (fun _ _=>none) RR=f0 l:=by
 refine (P0 l).trans ?_
 show _=sh0 l (f2 100000)
 simp only [H2]
theorem run (l):runFn X bd (.seq none .d (.seq (some nm1) (.seq none .d (.block (.loop nm2 .d))) .d)) nmR [4] [] [(.lst .node l),(.fn 58 [] [])]=f0 l:=T0 l
theorem f0_eq (l:List Node) (h:(nle (List.length l) 90000)=true):f0 l=outI (findZ bigNode 0 l):=by
 have hl:=nleI h
 refine (grun_eq l (by omega) (fun n_ (_:Unit) i_=>f2 n_ l (Int.ofNat l.length) i_) _ (fun _=>outI (-1)) (fun n_ u_ i_ hi_=>?_) (fun n_ u_=>?_) 100000 0 () (by omega) (by omega)).trans (grun_find bigNode outI l 0)
 ·show sh2 l (Int.ofNat l.length) i_ f1 (f2 n_)=_
  unfold sh2
  rw [iltT (by simp; omega),inbT hi_,toNat_nat,getD_lt hi_]
  rfl
 ·show sh2 l (Int.ofNat l.length) (l.length:Int) f1 (f2 n_)=_
  unfold sh2
  rw [iltF (by simp)]
  rfl
theorem ok:CtxOk Tryz.prog X:=ctxOk tab (spC lg1.spOk spN) dpN
theorem okM:MOk Tryz.prog X:=fun g sp h=>by cases h
theorem spec (l:List Node) (h:(nle (List.length l) 90000)=true):CallSpec Tryz.prog E 109 [(.lst .node l),(.fn 58 [] [])] (.int .i64 (findZ bigNode 0 l)) [] :=
 rfs ok okM Tryz.call109 Tryz.func109 ((run l).trans (f0_eq l h))
noncomputable def sp:Sp U El:=fun args k=>match args with
 | [.lst .node l,.fn 58 [] []]=>chk (nle (List.length l) 90000) (k (.int .i64 (findZ bigNode 0 l)) [])
 | _=>none
theorem spOk:SpOk Tryz.prog E 109 sp:=⟨fun vs=>by unfold sp;split;exact det_c _ _ _;exact ⟨none,fun _=>rfl⟩,fun vs k r h=>by unfold sp at h;split at h;(obtain ⟨h1,h2⟩:=chk_some h;exact ⟨_,_,spec _ h1,h2⟩);cases h⟩
end lg1X
namespace lg1C
noncomputable def bd:Code:=(Tryz.f57.body).getD .skip
noncomputable def X:Ctx U El:=⟨E,tds,zeros,eqs,specOf [(109,lg1X.sp)],100000,9,dspecOf [],fun _=>none,fun _=>none⟩
noncomputable def nmR:Norm U:=⟨[],[4],[],[],[],[],[]⟩
noncomputable def RR:Kont U El:=fun st=>normK nmR st (retFin [4] [])
noncomputable def fr0 (l:List Node):St U El:=⟨[(0,(.lst .node l)),(1,(.fn 58 [] []))],[]⟩
noncomputable def sh0 (l:List Node):R :=
 chk (nle (List.length l) 90000) (some ((.bool (ile (0:Int) (findZ bigNode 0 l))),[]))
theorem P0 (l):exec X (cdp [] bd) .d (fr0 l) RR (fun _ _=>none) RR=sh0 l:=by kernel_rfl
noncomputable def f0 (l:List Node):R:=sh0 l
theorem T0 (l):exec X bd .d (fr0 l) RR (fun _ _=>none) RR=f0 l:=by
 refine (P0 l).trans ?_
 show _=sh0 l
 rfl
theorem run (l):runFn X bd .d nmR [4] [] [(.lst .node l),(.fn 58 [] [])]=f0 l:=T0 l
theorem f0_eq (l:List Node) (h:(nle (List.length l) 90000)=true):f0 l=outB (List.any l bigNode):=by
 show chk _ (outB _)=_
 rw [h,chkT,findZ_any]
theorem ok:CtxOk Tryz.prog X:=ctxOk tab (spC lg1X.spOk spN) dpN
theorem okM:MOk Tryz.prog X:=fun g sp h=>by cases h
theorem spec (l:List Node) (h:(nle (List.length l) 90000)=true):CallSpec Tryz.prog E 57 [(.lst .node l),(.fn 58 [] [])] (.bool (List.any l bigNode)) [] :=
 rfs ok okM Tryz.call57 Tryz.func57 ((run l).trans (f0_eq l h))
noncomputable def sp:Sp U El:=fun args k=>match args with
 | [.lst .node l,.fn 58 [] []]=>chk (nle (List.length l) 90000) (k (.bool (List.any l bigNode)) [])
 | _=>none
theorem spOk:SpOk Tryz.prog E 57 sp:=⟨fun vs=>by unfold sp;split;exact det_c _ _ _;exact ⟨none,fun _=>rfl⟩,fun vs k r h=>by unfold sp at h;split at h;(obtain ⟨h1,h2⟩:=chk_some h;exact ⟨_,_,spec _ h1,h2⟩);cases h⟩
end lg1C
namespace lg2
noncomputable def bd:Code:=(Tryz.f60.body).getD .skip
noncomputable def X:Ctx U El:=⟨E,tds,zeros,eqs,specOf [],100000,31,dspecOf [],fun _=>none,fun _=>none⟩
noncomputable def nmR:Norm U:=⟨[],[2],[],[],[],[],[]⟩
noncomputable def RR:Kont U El:=fun st=>normK nmR st (retFin [2] [])
noncomputable def fr0 (x:Lnk):St U El:=⟨[(0,(.agg [(.str x.ln),(.str x.lf),(.str x.lt),(.int .i64 x.lk),(.int .i64 x.ll),(.int .i64 x.lu),(.int .i64 x.ld),(.str x.lc),(.int .i64 x.lw),(.int .i64 x.lh),(.lst .knot x.lv)]))],[]⟩
noncomputable def sh0 (x:Lnk):R :=
 condB (ilt (110:Int) (Int.ofNat (List.length x.lv))) (some ((.bool true),[])) (condB (ilt (100:Int) (Int.ofNat (List.length x.ln))) (some ((.bool true),[])) (condB (ilt (100:Int) (Int.ofNat (List.length x.lf))) (some ((.bool true),[])) (condB (ilt (100:Int) (Int.ofNat (List.length x.lt))) (some ((.bool true),[])) (some ((.bool (ilt (100:Int) (Int.ofNat (List.length x.lc)))),[])))))
theorem P0 (x):exec X (cdp [] bd) .d (fr0 x) RR (fun _ _=>none) RR=sh0 x:=by kernel_rfl
noncomputable def f0 (x:Lnk):R:=sh0 x
theorem T0 (x):exec X bd .d (fr0 x) RR (fun _ _=>none) RR=f0 x:=by
 refine (P0 x).trans ?_
 show _=sh0 x
 rfl
theorem run (x):runFn X bd .d nmR [2] [] [(.agg [(.str x.ln),(.str x.lf),(.str x.lt),(.int .i64 x.lk),(.int .i64 x.ll),(.int .i64 x.lu),(.int .i64 x.ld),(.str x.lc),(.int .i64 x.lw),(.int .i64 x.lh),(.lst .knot x.lv)])]=f0 x:=T0 x
theorem f0_eq (x:Lnk):f0 x=outB (bigLink x):=by
 show sh0 x=_
 unfold sh0 bigLink
 simp only [oB,cOr]
theorem ok:CtxOk Tryz.prog X:=ctxOk tab spN dpN
theorem okM:MOk Tryz.prog X:=fun g sp h=>by cases h
theorem spec (x:Lnk):CallSpec Tryz.prog E 60 [(.agg [(.str x.ln),(.str x.lf),(.str x.lt),(.int .i64 x.lk),(.int .i64 x.ll),(.int .i64 x.lu),(.int .i64 x.ld),(.str x.lc),(.int .i64 x.lw),(.int .i64 x.lh),(.lst .knot x.lv)])] (.bool (bigLink x)) [] :=
 rfs ok okM Tryz.call60 Tryz.func60 ((run x).trans (f0_eq x))
noncomputable def sp:Sp U El:=fun args k=>match args with
 | [.agg [.str x_ln,.str x_lf,.str x_lt,.int .i64 x_lk,.int .i64 x_ll,.int .i64 x_lu,.int .i64 x_ld,.str x_lc,.int .i64 x_lw,.int .i64 x_lh,.lst .knot x_lv]]=>k (.bool (bigLink (⟨x_ln,x_lf,x_lt,x_lk,x_ll,x_lu,x_ld,x_lc,x_lw,x_lh,x_lv⟩:Lnk))) []
 | _=>none
theorem spOk:SpOk Tryz.prog E 60 sp:=⟨fun vs=>by unfold sp;split;exact ⟨some (_,_),fun _=>rfl⟩;exact ⟨none,fun _=>rfl⟩,fun vs k r h=>by unfold sp at h;split at h;exact ⟨_,_,spec ⟨_,_,_,_,_,_,_,_,_,_,_⟩,h⟩;cases h⟩
end lg2
namespace lg2X
noncomputable def bd:Code:=(Tryz.f110.body).getD .skip
noncomputable def X:Ctx U El:=⟨E,tds,zeros,eqs,specOf [(60,lg2.sp)],100000,19,dspecOf [],fun _=>none,fun _=>none⟩
noncomputable def nmR:Norm U:=⟨[],[4],[],[],[],[],[]⟩
noncomputable def RR:Kont U El:=fun st=>normK nmR st (retFin [4] [])
noncomputable def nm1:Norm U:=⟨[],[],[],[],[],[],[]⟩
noncomputable def nm2:Norm U:=⟨[],[0,1,7,8],[],[],[],[],[]⟩
abbrev Y1:=R
abbrev Y2:=(List Lnk)→Int→Int→R
noncomputable def fr0 (l:List Lnk):St U El:=⟨[(0,(.lst .link l)),(1,(.fn 60 [] []))],[]⟩
noncomputable def fr1:St U El:=⟨[],[]⟩
noncomputable def fr2 (s0:List Lnk) (x7:Int) (x8:Int):St U El:=⟨[(0,(.lst .link s0)),(1,(.fn 60 [] [])),(7,(.int .i64 x7)),(8,(.int .i64 x8))],[]⟩
noncomputable def sh0 (l:List Lnk) (k2:Y2):R :=
 k2 l (Int.ofNat (List.length l)) (0:Int)
noncomputable def sh1:R :=
 some ((.int .i64 (-1:Int)),[])
noncomputable def sh2 (s0:List Lnk) (x7:Int) (x8:Int) (k1:Y1) (k2:Y2):R :=
 condB (ilt x8 x7) (chk (inb x8 (List.length s0)) (condB (bigLink (List.getD s0 (Int.toNat x8) d_link)) (some ((.int .i64 x8),[])) (k2 s0 x7 (IntKind.wrap .i64 (x8+(1:Int)))))) (k1)
noncomputable def it2 (Kb1:Kont U El) (n:Nat):Kont U El:=iter nm2 (fun st' K'=>exec X (cdp [1,0,1,0,0] bd) .d st' K' (Eblk 0 (cutK nm1 Kb1) (fun _ _=>none)) RR) n
noncomputable def ct1:Kont U El:=fun st=>exec X (cdp [1,1] bd) .d st RR (fun _ _=>none) RR
theorem P0 (l):exec X (cdp [] bd) (.seq none .d (.seq (some nm1) (.seq none .d (.block (.loop nm2 .d))) .d)) (fr0 l) RR (fun _ _=>none) RR=sh0 l (fun y0 y1 y2=>(hid (it2 (hid ct1) 100000)) (fr2 y0 y1 y2)):=by kernel_rfl
theorem P1:ct1 (fr1)=sh1:=by kernel_rfl
theorem P2 (s0 x7 x8) (Kb1 Kb2:Kont U El):exec X (cdp [1,0,1,0,0] bd) .d (fr2 s0 x7 x8) (cutK nm2 Kb2) (Eblk 0 (cutK nm1 Kb1) (fun _ _=>none)) RR=sh2 s0 x7 x8 (Kb1 (fr1)) (fun y0 y1 y2=>Kb2 (fr2 y0 y1 y2)):=by kernel_rfl
noncomputable def f1:R:=sh1
noncomputable def f2:Nat→Y2
 | 0=>fun _ _ _=>none
 | n+1=>fun s0 x7 x8=>sh2 s0 x7 x8 f1 (f2 n)
noncomputable def f0 (l:List Lnk):R:=sh0 l (f2 100000)
theorem T1:(hid ct1) (fr1)=f1:=by
 refine (congrFun (hid_eq _) _).trans <| (P1).trans ?_
 show _=sh1
 rfl
theorem T2:∀ (n:Nat),∀ s0 x7 x8,it2 (hid ct1) n (fr2 s0 x7 x8)=f2 n s0 x7 x8:=by
  intro n
  induction n with
  | zero=>intros; rfl
  | succ n ih =>
    intro s0 x7 x8
    refine (P2 s0 x7 x8 (hid ct1) (it2 (hid ct1) n)).trans ?_
    show _=sh2 s0 x7 x8 f1 (f2 n)
    simp only [T1,ih]
theorem H2 (s0 x7 x8):hid (it2 (hid ct1) 100000) (fr2 s0 x7 x8)=f2 100000 s0 x7 x8:=(congrFun (hid_eq _) _).trans (T2 100000 s0 x7 x8)
theorem T0 (l):exec X bd (.seq none .d (.seq (some nm1) (.seq none .d (.block (.loop nm2 .d))) .d)) (fr0 l) RR (fun _ _=>none) RR=f0 l:=by
 refine (P0 l).trans ?_
 show _=sh0 l (f2 100000)
 simp only [H2]
theorem run (l):runFn X bd (.seq none .d (.seq (some nm1) (.seq none .d (.block (.loop nm2 .d))) .d)) nmR [4] [] [(.lst .link l),(.fn 60 [] [])]=f0 l:=T0 l
theorem f0_eq (l:List Lnk) (h:(nle (List.length l) 90000)=true):f0 l=outI (findZ bigLink 0 l):=by
 have hl:=nleI h
 refine (grun_eq l (by omega) (fun n_ (_:Unit) i_=>f2 n_ l (Int.ofNat l.length) i_) _ (fun _=>outI (-1)) (fun n_ u_ i_ hi_=>?_) (fun n_ u_=>?_) 100000 0 () (by omega) (by omega)).trans (grun_find bigLink outI l 0)
 ·show sh2 l (Int.ofNat l.length) i_ f1 (f2 n_)=_
  unfold sh2
  rw [iltT (by simp; omega),inbT hi_,toNat_nat,getD_lt hi_]
  rfl
 ·show sh2 l (Int.ofNat l.length) (l.length:Int) f1 (f2 n_)=_
  unfold sh2
  rw [iltF (by simp)]
  rfl
theorem ok:CtxOk Tryz.prog X:=ctxOk tab (spC lg2.spOk spN) dpN
theorem okM:MOk Tryz.prog X:=fun g sp h=>by cases h
theorem spec (l:List Lnk) (h:(nle (List.length l) 90000)=true):CallSpec Tryz.prog E 110 [(.lst .link l),(.fn 60 [] [])] (.int .i64 (findZ bigLink 0 l)) [] :=
 rfs ok okM Tryz.call110 Tryz.func110 ((run l).trans (f0_eq l h))
noncomputable def sp:Sp U El:=fun args k=>match args with
 | [.lst .link l,.fn 60 [] []]=>chk (nle (List.length l) 90000) (k (.int .i64 (findZ bigLink 0 l)) [])
 | _=>none
theorem spOk:SpOk Tryz.prog E 110 sp:=⟨fun vs=>by unfold sp;split;exact det_c _ _ _;exact ⟨none,fun _=>rfl⟩,fun vs k r h=>by unfold sp at h;split at h;(obtain ⟨h1,h2⟩:=chk_some h;exact ⟨_,_,spec _ h1,h2⟩);cases h⟩
end lg2X
namespace lg2C
noncomputable def bd:Code:=(Tryz.f59.body).getD .skip
noncomputable def X:Ctx U El:=⟨E,tds,zeros,eqs,specOf [(110,lg2X.sp)],100000,9,dspecOf [],fun _=>none,fun _=>none⟩
noncomputable def nmR:Norm U:=⟨[],[4],[],[],[],[],[]⟩
noncomputable def RR:Kont U El:=fun st=>normK nmR st (retFin [4] [])
noncomputable def fr0 (l:List Lnk):St U El:=⟨[(0,(.lst .link l)),(1,(.fn 60 [] []))],[]⟩
noncomputable def sh0 (l:List Lnk):R :=
 chk (nle (List.length l) 90000) (some ((.bool (ile (0:Int) (findZ bigLink 0 l))),[]))
theorem P0 (l):exec X (cdp [] bd) .d (fr0 l) RR (fun _ _=>none) RR=sh0 l:=by kernel_rfl
noncomputable def f0 (l:List Lnk):R:=sh0 l
theorem T0 (l):exec X bd .d (fr0 l) RR (fun _ _=>none) RR=f0 l:=by
 refine (P0 l).trans ?_
 show _=sh0 l
 rfl
theorem run (l):runFn X bd .d nmR [4] [] [(.lst .link l),(.fn 60 [] [])]=f0 l:=T0 l
theorem f0_eq (l:List Lnk) (h:(nle (List.length l) 90000)=true):f0 l=outB (List.any l bigLink):=by
 show chk _ (outB _)=_
 rw [h,chkT,findZ_any]
theorem ok:CtxOk Tryz.prog X:=ctxOk tab (spC lg2X.spOk spN) dpN
theorem okM:MOk Tryz.prog X:=fun g sp h=>by cases h
theorem spec (l:List Lnk) (h:(nle (List.length l) 90000)=true):CallSpec Tryz.prog E 59 [(.lst .link l),(.fn 60 [] [])] (.bool (List.any l bigLink)) [] :=
 rfs ok okM Tryz.call59 Tryz.func59 ((run l).trans (f0_eq l h))
noncomputable def sp:Sp U El:=fun args k=>match args with
 | [.lst .link l,.fn 60 [] []]=>chk (nle (List.length l) 90000) (k (.bool (List.any l bigLink)) [])
 | _=>none
theorem spOk:SpOk Tryz.prog E 59 sp:=⟨fun vs=>by unfold sp;split;exact det_c _ _ _;exact ⟨none,fun _=>rfl⟩,fun vs k r h=>by unfold sp at h;split at h;(obtain ⟨h1,h2⟩:=chk_some h;exact ⟨_,_,spec _ h1,h2⟩);cases h⟩
end lg2C
namespace lng1
noncomputable def bd:Code:=(Tryz.f89.body).getD .skip
noncomputable def X:Ctx U El:=⟨E,tds,zeros,eqs,specOf [],100000,7,dspecOf [],fun _=>none,fun _=>none⟩
noncomputable def nmR:Norm U:=⟨[],[2],[],[],[],[],[]⟩
noncomputable def RR:Kont U El:=fun st=>normK nmR st (retFin [2] [])
noncomputable def fr0 (x:Cnd):St U El:=⟨[(0,(.agg [(.str x.cn),(.bool x.cb),(.int .i64 x.cl)]))],[]⟩
noncomputable def sh0 (x:Cnd):R :=
 some ((.bool (ilt (100:Int) (Int.ofNat (List.length x.cn)))),[])
theorem P0 (x):exec X (cdp [] bd) .d (fr0 x) RR (fun _ _=>none) RR=sh0 x:=by kernel_rfl
noncomputable def f0 (x:Cnd):R:=sh0 x
theorem T0 (x):exec X bd .d (fr0 x) RR (fun _ _=>none) RR=f0 x:=by
 refine (P0 x).trans ?_
 show _=sh0 x
 rfl
theorem run (x):runFn X bd .d nmR [2] [] [(.agg [(.str x.cn),(.bool x.cb),(.int .i64 x.cl)])]=f0 x:=T0 x
theorem f0_eq (x:Cnd):f0 x=outB (bigCnd x):=rfl
theorem ok:CtxOk Tryz.prog X:=ctxOk tab spN dpN
theorem okM:MOk Tryz.prog X:=fun g sp h=>by cases h
theorem spec (x:Cnd):CallSpec Tryz.prog E 89 [(.agg [(.str x.cn),(.bool x.cb),(.int .i64 x.cl)])] (.bool (bigCnd x)) [] :=
 rfs ok okM Tryz.call89 Tryz.func89 ((run x).trans (f0_eq x))
noncomputable def sp:Sp U El:=fun args k=>match args with
 | [.agg [.str x_cn,.bool x_cb,.int .i64 x_cl]]=>k (.bool (bigCnd (⟨x_cn,x_cb,x_cl⟩:Cnd))) []
 | _=>none
theorem spOk:SpOk Tryz.prog E 89 sp:=⟨fun vs=>by unfold sp;split;exact ⟨some (_,_),fun _=>rfl⟩;exact ⟨none,fun _=>rfl⟩,fun vs k r h=>by unfold sp at h;split at h;exact ⟨_,_,spec ⟨_,_,_⟩,h⟩;cases h⟩
end lng1
namespace lng1X
noncomputable def bd:Code:=(Tryz.f130.body).getD .skip
noncomputable def X:Ctx U El:=⟨E,tds,zeros,eqs,specOf [(89,lng1.sp)],100000,19,dspecOf [],fun _=>none,fun _=>none⟩
noncomputable def nmR:Norm U:=⟨[],[4],[],[],[],[],[]⟩
noncomputable def RR:Kont U El:=fun st=>normK nmR st (retFin [4] [])
noncomputable def nm1:Norm U:=⟨[],[],[],[],[],[],[]⟩
noncomputable def nm2:Norm U:=⟨[],[0,1,7,8],[],[],[],[],[]⟩
abbrev Y1:=R
abbrev Y2:=(List Cnd)→Int→Int→R
noncomputable def fr0 (l:List Cnd):St U El:=⟨[(0,(.lst .cnd l)),(1,(.fn 89 [] []))],[]⟩
noncomputable def fr1:St U El:=⟨[],[]⟩
noncomputable def fr2 (s0:List Cnd) (x7:Int) (x8:Int):St U El:=⟨[(0,(.lst .cnd s0)),(1,(.fn 89 [] [])),(7,(.int .i64 x7)),(8,(.int .i64 x8))],[]⟩
noncomputable def sh0 (l:List Cnd) (k2:Y2):R :=
 k2 l (Int.ofNat (List.length l)) (0:Int)
noncomputable def sh1:R :=
 some ((.int .i64 (-1:Int)),[])
noncomputable def sh2 (s0:List Cnd) (x7:Int) (x8:Int) (k1:Y1) (k2:Y2):R :=
 condB (ilt x8 x7) (chk (inb x8 (List.length s0)) (condB (bigCnd (List.getD s0 (Int.toNat x8) d_cnd)) (some ((.int .i64 x8),[])) (k2 s0 x7 (IntKind.wrap .i64 (x8+(1:Int)))))) (k1)
noncomputable def it2 (Kb1:Kont U El) (n:Nat):Kont U El:=iter nm2 (fun st' K'=>exec X (cdp [1,0,1,0,0] bd) .d st' K' (Eblk 0 (cutK nm1 Kb1) (fun _ _=>none)) RR) n
noncomputable def ct1:Kont U El:=fun st=>exec X (cdp [1,1] bd) .d st RR (fun _ _=>none) RR
theorem P0 (l):exec X (cdp [] bd) (.seq none .d (.seq (some nm1) (.seq none .d (.block (.loop nm2 .d))) .d)) (fr0 l) RR (fun _ _=>none) RR=sh0 l (fun y0 y1 y2=>(hid (it2 (hid ct1) 100000)) (fr2 y0 y1 y2)):=by kernel_rfl
theorem P1:ct1 (fr1)=sh1:=by kernel_rfl
theorem P2 (s0 x7 x8) (Kb1 Kb2:Kont U El):exec X (cdp [1,0,1,0,0] bd) .d (fr2 s0 x7 x8) (cutK nm2 Kb2) (Eblk 0 (cutK nm1 Kb1) (fun _ _=>none)) RR=sh2 s0 x7 x8 (Kb1 (fr1)) (fun y0 y1 y2=>Kb2 (fr2 y0 y1 y2)):=by kernel_rfl
noncomputable def f1:R:=sh1
noncomputable def f2:Nat→Y2
 | 0=>fun _ _ _=>none
 | n+1=>fun s0 x7 x8=>sh2 s0 x7 x8 f1 (f2 n)
noncomputable def f0 (l:List Cnd):R:=sh0 l (f2 100000)
theorem T1:(hid ct1) (fr1)=f1:=by
 refine (congrFun (hid_eq _) _).trans <| (P1).trans ?_
 show _=sh1
 rfl
theorem T2:∀ (n:Nat),∀ s0 x7 x8,it2 (hid ct1) n (fr2 s0 x7 x8)=f2 n s0 x7 x8:=by
  intro n
  induction n with
  | zero=>intros; rfl
  | succ n ih =>
    intro s0 x7 x8
    refine (P2 s0 x7 x8 (hid ct1) (it2 (hid ct1) n)).trans ?_
    show _=sh2 s0 x7 x8 f1 (f2 n)
    simp only [T1,ih]
theorem H2 (s0 x7 x8):hid (it2 (hid ct1) 100000) (fr2 s0 x7 x8)=f2 100000 s0 x7 x8:=(congrFun (hid_eq _) _).trans (T2 100000 s0 x7 x8)
theorem T0 (l):exec X bd (.seq none .d (.seq (some nm1) (.seq none .d (.block (.loop nm2 .d))) .d)) (fr0 l) RR (fun _ _=>none) RR=f0 l:=by
 refine (P0 l).trans ?_
 show _=sh0 l (f2 100000)
 simp only [H2]
theorem run (l):runFn X bd (.seq none .d (.seq (some nm1) (.seq none .d (.block (.loop nm2 .d))) .d)) nmR [4] [] [(.lst .cnd l),(.fn 89 [] [])]=f0 l:=T0 l
theorem f0_eq (l:List Cnd) (h:(nle (List.length l) 90000)=true):f0 l=outI (findZ bigCnd 0 l):=by
 have hl:=nleI h
 refine (grun_eq l (by omega) (fun n_ (_:Unit) i_=>f2 n_ l (Int.ofNat l.length) i_) _ (fun _=>outI (-1)) (fun n_ u_ i_ hi_=>?_) (fun n_ u_=>?_) 100000 0 () (by omega) (by omega)).trans (grun_find bigCnd outI l 0)
 ·show sh2 l (Int.ofNat l.length) i_ f1 (f2 n_)=_
  unfold sh2
  rw [iltT (by simp; omega),inbT hi_,toNat_nat,getD_lt hi_]
  rfl
 ·show sh2 l (Int.ofNat l.length) (l.length:Int) f1 (f2 n_)=_
  unfold sh2
  rw [iltF (by simp)]
  rfl
theorem ok:CtxOk Tryz.prog X:=ctxOk tab (spC lng1.spOk spN) dpN
theorem okM:MOk Tryz.prog X:=fun g sp h=>by cases h
theorem spec (l:List Cnd) (h:(nle (List.length l) 90000)=true):CallSpec Tryz.prog E 130 [(.lst .cnd l),(.fn 89 [] [])] (.int .i64 (findZ bigCnd 0 l)) [] :=
 rfs ok okM Tryz.call130 Tryz.func130 ((run l).trans (f0_eq l h))
noncomputable def sp:Sp U El:=fun args k=>match args with
 | [.lst .cnd l,.fn 89 [] []]=>chk (nle (List.length l) 90000) (k (.int .i64 (findZ bigCnd 0 l)) [])
 | _=>none
theorem spOk:SpOk Tryz.prog E 130 sp:=⟨fun vs=>by unfold sp;split;exact det_c _ _ _;exact ⟨none,fun _=>rfl⟩,fun vs k r h=>by unfold sp at h;split at h;(obtain ⟨h1,h2⟩:=chk_some h;exact ⟨_,_,spec _ h1,h2⟩);cases h⟩
end lng1X
namespace lng1C
noncomputable def bd:Code:=(Tryz.f88.body).getD .skip
noncomputable def X:Ctx U El:=⟨E,tds,zeros,eqs,specOf [(130,lng1X.sp)],100000,9,dspecOf [],fun _=>none,fun _=>none⟩
noncomputable def nmR:Norm U:=⟨[],[4],[],[],[],[],[]⟩
noncomputable def RR:Kont U El:=fun st=>normK nmR st (retFin [4] [])
noncomputable def fr0 (l:List Cnd):St U El:=⟨[(0,(.lst .cnd l)),(1,(.fn 89 [] []))],[]⟩
noncomputable def sh0 (l:List Cnd):R :=
 chk (nle (List.length l) 90000) (some ((.bool (ile (0:Int) (findZ bigCnd 0 l))),[]))
theorem P0 (l):exec X (cdp [] bd) .d (fr0 l) RR (fun _ _=>none) RR=sh0 l:=by kernel_rfl
noncomputable def f0 (l:List Cnd):R:=sh0 l
theorem T0 (l):exec X bd .d (fr0 l) RR (fun _ _=>none) RR=f0 l:=by
 refine (P0 l).trans ?_
 show _=sh0 l
 rfl
theorem run (l):runFn X bd .d nmR [4] [] [(.lst .cnd l),(.fn 89 [] [])]=f0 l:=T0 l
theorem f0_eq (l:List Cnd) (h:(nle (List.length l) 90000)=true):f0 l=outB (List.any l bigCnd):=by
 show chk _ (outB _)=_
 rw [h,chkT,findZ_any]
theorem ok:CtxOk Tryz.prog X:=ctxOk tab (spC lng1X.spOk spN) dpN
theorem okM:MOk Tryz.prog X:=fun g sp h=>by cases h
theorem spec (l:List Cnd) (h:(nle (List.length l) 90000)=true):CallSpec Tryz.prog E 88 [(.lst .cnd l),(.fn 89 [] [])] (.bool (List.any l bigCnd)) [] :=
 rfs ok okM Tryz.call88 Tryz.func88 ((run l).trans (f0_eq l h))
noncomputable def sp:Sp U El:=fun args k=>match args with
 | [.lst .cnd l,.fn 89 [] []]=>chk (nle (List.length l) 90000) (k (.bool (List.any l bigCnd)) [])
 | _=>none
theorem spOk:SpOk Tryz.prog E 88 sp:=⟨fun vs=>by unfold sp;split;exact det_c _ _ _;exact ⟨none,fun _=>rfl⟩,fun vs k r h=>by unfold sp at h;split at h;(obtain ⟨h1,h2⟩:=chk_some h;exact ⟨_,_,spec _ h1,h2⟩);cases h⟩
end lng1C
namespace long
noncomputable def bd:Code:=(Tryz.f43.body).getD .skip
noncomputable def X:Ctx U El:=⟨E,tds,zeros,eqs,specOf [(88,lng1C.sp)],100000,24,dspecOf [],fun _=>none,fun _=>none⟩
noncomputable def nmR:Norm U:=⟨[],[2],[],[],[],[],[]⟩
noncomputable def RR:Kont U El:=fun st=>normK nmR st (retFin [2] [])
noncomputable def fr0 (r:Rule):St U El:=⟨[(0,(.agg [(.str r.rn),(.lst .cnd r.rw),(.str r.rl),(.int .i64 r.rs)]))],[]⟩
noncomputable def sh0 (r:Rule):R :=
 condB (ilt (25:Int) (Int.ofNat (List.length r.rw))) (some ((.bool true),[])) (condB (ilt (100:Int) (Int.ofNat (List.length r.rn))) (some ((.bool true),[])) (condB (ilt (100:Int) (Int.ofNat (List.length r.rl))) (some ((.bool true),[])) (chk (nle (List.length r.rw) 90000) (some ((.bool (List.any r.rw bigCnd)),[])))))
theorem P0 (r):exec X (cdp [] bd) .d (fr0 r) RR (fun _ _=>none) RR=sh0 r:=by kernel_rfl
noncomputable def f0 (r:Rule):R:=sh0 r
theorem T0 (r):exec X bd .d (fr0 r) RR (fun _ _=>none) RR=f0 r:=by
 refine (P0 r).trans ?_
 show _=sh0 r
 rfl
theorem run (r):runFn X bd .d nmR [2] [] [(.agg [(.str r.rn),(.lst .cnd r.rw),(.str r.rl),(.int .i64 r.rs)])]=f0 r:=T0 r
theorem f0_eq (r:Rule):f0 r=outB (longB r):=by
 show sh0 r=_
 unfold sh0 longB
 by_cases h:(25:Int) < Int.ofNat r.rw.length
 ·rw [iltT h]; rfl
 ·rw [nleT (show r.rw.length ≤ 90000 by simp at h; omega),chkT]
  simp only [oB,cOr]
theorem ok:CtxOk Tryz.prog X:=ctxOk tab (spC lng1C.spOk spN) dpN
theorem okM:MOk Tryz.prog X:=fun g sp h=>by cases h
theorem spec (r:Rule):CallSpec Tryz.prog E 43 [(.agg [(.str r.rn),(.lst .cnd r.rw),(.str r.rl),(.int .i64 r.rs)])] (.bool (longB r)) [] :=
 rfs ok okM Tryz.call43 Tryz.func43 ((run r).trans (f0_eq r))
noncomputable def sp:Sp U El:=fun args k=>match args with
 | [.agg [.str r_rn,.lst .cnd r_rw,.str r_rl,.int .i64 r_rs]]=>k (.bool (longB (⟨r_rn,r_rw,r_rl,r_rs⟩:Rule))) []
 | _=>none
theorem spOk:SpOk Tryz.prog E 43 sp:=⟨fun vs=>by unfold sp;split;exact ⟨some (_,_),fun _=>rfl⟩;exact ⟨none,fun _=>rfl⟩,fun vs k r h=>by unfold sp at h;split at h;exact ⟨_,_,spec ⟨_,_,_,_⟩,h⟩;cases h⟩
end long
namespace longX
noncomputable def bd:Code:=(Tryz.f111.body).getD .skip
noncomputable def X:Ctx U El:=⟨E,tds,zeros,eqs,specOf [(43,long.sp)],100000,19,dspecOf [],fun _=>none,fun _=>none⟩
noncomputable def nmR:Norm U:=⟨[],[4],[],[],[],[],[]⟩
noncomputable def RR:Kont U El:=fun st=>normK nmR st (retFin [4] [])
noncomputable def nm1:Norm U:=⟨[],[],[],[],[],[],[]⟩
noncomputable def nm2:Norm U:=⟨[],[0,1,7,8],[],[],[],[],[]⟩
abbrev Y1:=R
abbrev Y2:=(List Rule)→Int→Int→R
noncomputable def fr0 (l:List Rule):St U El:=⟨[(0,(.lst .rule l)),(1,(.fn 43 [] []))],[]⟩
noncomputable def fr1:St U El:=⟨[],[]⟩
noncomputable def fr2 (s0:List Rule) (x7:Int) (x8:Int):St U El:=⟨[(0,(.lst .rule s0)),(1,(.fn 43 [] [])),(7,(.int .i64 x7)),(8,(.int .i64 x8))],[]⟩
noncomputable def sh0 (l:List Rule) (k2:Y2):R :=
 k2 l (Int.ofNat (List.length l)) (0:Int)
noncomputable def sh1:R :=
 some ((.int .i64 (-1:Int)),[])
noncomputable def sh2 (s0:List Rule) (x7:Int) (x8:Int) (k1:Y1) (k2:Y2):R :=
 condB (ilt x8 x7) (chk (inb x8 (List.length s0)) (condB (longB (List.getD s0 (Int.toNat x8) d_rule)) (some ((.int .i64 x8),[])) (k2 s0 x7 (IntKind.wrap .i64 (x8+(1:Int)))))) (k1)
noncomputable def it2 (Kb1:Kont U El) (n:Nat):Kont U El:=iter nm2 (fun st' K'=>exec X (cdp [1,0,1,0,0] bd) .d st' K' (Eblk 0 (cutK nm1 Kb1) (fun _ _=>none)) RR) n
noncomputable def ct1:Kont U El:=fun st=>exec X (cdp [1,1] bd) .d st RR (fun _ _=>none) RR
theorem P0 (l):exec X (cdp [] bd) (.seq none .d (.seq (some nm1) (.seq none .d (.block (.loop nm2 .d))) .d)) (fr0 l) RR (fun _ _=>none) RR=sh0 l (fun y0 y1 y2=>(hid (it2 (hid ct1) 100000)) (fr2 y0 y1 y2)):=by kernel_rfl
theorem P1:ct1 (fr1)=sh1:=by kernel_rfl
theorem P2 (s0 x7 x8) (Kb1 Kb2:Kont U El):exec X (cdp [1,0,1,0,0] bd) .d (fr2 s0 x7 x8) (cutK nm2 Kb2) (Eblk 0 (cutK nm1 Kb1) (fun _ _=>none)) RR=sh2 s0 x7 x8 (Kb1 (fr1)) (fun y0 y1 y2=>Kb2 (fr2 y0 y1 y2)):=by kernel_rfl
noncomputable def f1:R:=sh1
noncomputable def f2:Nat→Y2
 | 0=>fun _ _ _=>none
 | n+1=>fun s0 x7 x8=>sh2 s0 x7 x8 f1 (f2 n)
noncomputable def f0 (l:List Rule):R:=sh0 l (f2 100000)
theorem T1:(hid ct1) (fr1)=f1:=by
 refine (congrFun (hid_eq _) _).trans <| (P1).trans ?_
 show _=sh1
 rfl
theorem T2:∀ (n:Nat),∀ s0 x7 x8,it2 (hid ct1) n (fr2 s0 x7 x8)=f2 n s0 x7 x8:=by
  intro n
  induction n with
  | zero=>intros; rfl
  | succ n ih =>
    intro s0 x7 x8
    refine (P2 s0 x7 x8 (hid ct1) (it2 (hid ct1) n)).trans ?_
    show _=sh2 s0 x7 x8 f1 (f2 n)
    simp only [T1,ih]
theorem H2 (s0 x7 x8):hid (it2 (hid ct1) 100000) (fr2 s0 x7 x8)=f2 100000 s0 x7 x8:=(congrFun (hid_eq _) _).trans (T2 100000 s0 x7 x8)
theorem T0 (l):exec X bd (.seq none .d (.seq (some nm1) (.seq none .d (.block (.loop nm2 .d))) .d)) (fr0 l) RR (fun _ _=>none) RR=f0 l:=by
 refine (P0 l).trans ?_
 show _=sh0 l (f2 100000)
 simp only [H2]
theorem run (l):runFn X bd (.seq none .d (.seq (some nm1) (.seq none .d (.block (.loop nm2 .d))) .d)) nmR [4] [] [(.lst .rule l),(.fn 43 [] [])]=f0 l:=T0 l
theorem f0_eq (l:List Rule) (h:(nle (List.length l) 90000)=true):f0 l=outI (findZ longB 0 l):=by
 have hl:=nleI h
 refine (grun_eq l (by omega) (fun n_ (_:Unit) i_=>f2 n_ l (Int.ofNat l.length) i_) _ (fun _=>outI (-1)) (fun n_ u_ i_ hi_=>?_) (fun n_ u_=>?_) 100000 0 () (by omega) (by omega)).trans (grun_find longB outI l 0)
 ·show sh2 l (Int.ofNat l.length) i_ f1 (f2 n_)=_
  unfold sh2
  rw [iltT (by simp; omega),inbT hi_,toNat_nat,getD_lt hi_]
  rfl
 ·show sh2 l (Int.ofNat l.length) (l.length:Int) f1 (f2 n_)=_
  unfold sh2
  rw [iltF (by simp)]
  rfl
theorem ok:CtxOk Tryz.prog X:=ctxOk tab (spC long.spOk spN) dpN
theorem okM:MOk Tryz.prog X:=fun g sp h=>by cases h
theorem spec (l:List Rule) (h:(nle (List.length l) 90000)=true):CallSpec Tryz.prog E 111 [(.lst .rule l),(.fn 43 [] [])] (.int .i64 (findZ longB 0 l)) [] :=
 rfs ok okM Tryz.call111 Tryz.func111 ((run l).trans (f0_eq l h))
noncomputable def sp:Sp U El:=fun args k=>match args with
 | [.lst .rule l,.fn 43 [] []]=>chk (nle (List.length l) 90000) (k (.int .i64 (findZ longB 0 l)) [])
 | _=>none
theorem spOk:SpOk Tryz.prog E 111 sp:=⟨fun vs=>by unfold sp;split;exact det_c _ _ _;exact ⟨none,fun _=>rfl⟩,fun vs k r h=>by unfold sp at h;split at h;(obtain ⟨h1,h2⟩:=chk_some h;exact ⟨_,_,spec _ h1,h2⟩);cases h⟩
end longX
namespace longC
noncomputable def bd:Code:=(Tryz.f61.body).getD .skip
noncomputable def X:Ctx U El:=⟨E,tds,zeros,eqs,specOf [(111,longX.sp)],100000,9,dspecOf [],fun _=>none,fun _=>none⟩
noncomputable def nmR:Norm U:=⟨[],[4],[],[],[],[],[]⟩
noncomputable def RR:Kont U El:=fun st=>normK nmR st (retFin [4] [])
noncomputable def fr0 (l:List Rule):St U El:=⟨[(0,(.lst .rule l)),(1,(.fn 43 [] []))],[]⟩
noncomputable def sh0 (l:List Rule):R :=
 chk (nle (List.length l) 90000) (some ((.bool (ile (0:Int) (findZ longB 0 l))),[]))
theorem P0 (l):exec X (cdp [] bd) .d (fr0 l) RR (fun _ _=>none) RR=sh0 l:=by kernel_rfl
noncomputable def f0 (l:List Rule):R:=sh0 l
theorem T0 (l):exec X bd .d (fr0 l) RR (fun _ _=>none) RR=f0 l:=by
 refine (P0 l).trans ?_
 show _=sh0 l
 rfl
theorem run (l):runFn X bd .d nmR [4] [] [(.lst .rule l),(.fn 43 [] [])]=f0 l:=T0 l
theorem f0_eq (l:List Rule) (h:(nle (List.length l) 90000)=true):f0 l=outB (List.any l longB):=by
 show chk _ (outB _)=_
 rw [h,chkT,findZ_any]
theorem ok:CtxOk Tryz.prog X:=ctxOk tab (spC longX.spOk spN) dpN
theorem okM:MOk Tryz.prog X:=fun g sp h=>by cases h
theorem spec (l:List Rule) (h:(nle (List.length l) 90000)=true):CallSpec Tryz.prog E 61 [(.lst .rule l),(.fn 43 [] [])] (.bool (List.any l longB)) [] :=
 rfs ok okM Tryz.call61 Tryz.func61 ((run l).trans (f0_eq l h))
noncomputable def sp:Sp U El:=fun args k=>match args with
 | [.lst .rule l,.fn 43 [] []]=>chk (nle (List.length l) 90000) (k (.bool (List.any l longB)) [])
 | _=>none
theorem spOk:SpOk Tryz.prog E 61 sp:=⟨fun vs=>by unfold sp;split;exact det_c _ _ _;exact ⟨none,fun _=>rfl⟩,fun vs k r h=>by unfold sp at h;split at h;(obtain ⟨h1,h2⟩:=chk_some h;exact ⟨_,_,spec _ h1,h2⟩);cases h⟩
end longC
namespace large
noncomputable def bd:Code:=(Tryz.f13.body).getD .skip
noncomputable def X:Ctx U El:=⟨E,tds,zeros,eqs,specOf [(57,lg1C.sp),(59,lg2C.sp),(61,longC.sp)],100000,42,dspecOf [],fun _=>none,fun _=>none⟩
noncomputable def nmR:Norm U:=⟨[],[4],[],[],[],[],[]⟩
noncomputable def RR:Kont U El:=fun st=>normK nmR st (retFin [4] [])
noncomputable def nm1:Norm U:=⟨[],[0,3],[3],[],[],[],[(3,0,.node),(3,1,.link)]⟩
abbrev Y1:=(List Rule)→(List Node)→(List Lnk)→R
noncomputable def fr0 (l:List Rule) (n:Net):St U El:=⟨[(0,(.lst .rule l)),(1,(.agg [(.lst .node n.nds),(.lst .link n.lks)]))],[]⟩
noncomputable def fr1 (l0:List Rule) (dA:List Node) (eA:List Lnk):St U El:=⟨[(0,(.lst .rule l0)),(3,(.ptr 3 0))],[(3,(.box 0 [(.lst .node dA),(.lst .link eA)]))]⟩
noncomputable def sh0 (l:List Rule) (n:Net) (k1:Y1):R :=
 condB (ilt (12:Int) (Int.ofNat (List.length n.nds))) (some ((.bool true),[])) (condB (ilt (20:Int) (Int.ofNat (List.length n.lks))) (some ((.bool true),[])) (condB (ilt (8:Int) (Int.ofNat (List.length l))) (condB (ile (Int.ofNat (List.length l)) (60:Int)) (some ((.bool true),[])) (condB (ilt (70:Int) (Int.ofNat (List.length l))) (some ((.bool true),[])) (k1 l n.nds n.lks))) (condB (ilt (70:Int) (Int.ofNat (List.length l))) (some ((.bool true),[])) (k1 l n.nds n.lks))))
noncomputable def sh1 (l0:List Rule) (dA:List Node) (eA:List Lnk):R :=
 chk (nle (List.length dA) 90000) (condB (List.any dA bigNode) (some ((.bool true),[])) (chk (nle (List.length eA) 90000) (condB (List.any eA bigLink) (some ((.bool true),[])) (chk (nle (List.length l0) 90000) (some ((.bool (List.any l0 longB)),[]))))))
noncomputable def ct1:Kont U El:=fun st=>exec X (cdp [1,1] bd) .d st RR (fun _ _=>none) RR
theorem P0 (l n):exec X (cdp [] bd) (.seq none .d (.seq (some nm1) .d .d)) (fr0 l n) RR (fun _ _=>none) RR=sh0 l n (fun y0 y1 y2=>(hid ct1) (fr1 y0 y1 y2)):=by kernel_rfl
theorem P1 (l0 dA eA):ct1 (fr1 l0 dA eA)=sh1 l0 dA eA:=by kernel_rfl
noncomputable def f1 (l0:List Rule) (dA:List Node) (eA:List Lnk):R:=sh1 l0 dA eA
noncomputable def f0 (l:List Rule) (n:Net):R:=sh0 l n f1
theorem T1 (l0 dA eA):(hid ct1) (fr1 l0 dA eA)=f1 l0 dA eA:=by
 refine (congrFun (hid_eq _) _).trans <| (P1 l0 dA eA).trans ?_
 show _=sh1 l0 dA eA
 rfl
theorem T0 (l n):exec X bd (.seq none .d (.seq (some nm1) .d .d)) (fr0 l n) RR (fun _ _=>none) RR=f0 l n:=by
 refine (P0 l n).trans ?_
 show _=sh0 l n f1
 simp only [T1]
theorem run (l n):runFn X bd (.seq none .d (.seq (some nm1) .d .d)) nmR [4] [] [(.lst .rule l),(.agg [(.lst .node n.nds),(.lst .link n.lks)])]=f0 l n:=T0 l n
theorem f0_eq (l:List Rule) (n:Net):f0 l n=outB (largeB l n):=by
 show sh0 l n f1=_
 unfold sh0 largeB
 by_cases h1:(12:Int) < Int.ofNat n.nds.length
 ·rw [iltT h1]; rfl
 ·by_cases h2:(20:Int) < Int.ofNat n.lks.length
  ·rw [iltT h2]; cases ilt 12 (Int.ofNat n.nds.length)<;>rfl
  ·by_cases h3:(70:Int) < Int.ofNat l.length
   ·rw [iltF h1,iltF h2,iltT h3]
    cases ilt 8 (Int.ofNat l.length)<;>cases ile (Int.ofNat l.length) 60<;>rfl
   ·have hf:f1 l n.nds n.lks=outB (List.any n.nds bigNode || (List.any n.lks bigLink || List.any l longB)):=by
     show sh1 l n.nds n.lks=_
     unfold sh1
     rw [nleT (show n.nds.length≤90000 by simp at h1; omega),nleT (show n.lks.length≤90000 by simp at h2; omega),nleT (show l.length≤90000 by simp at h3; omega)]
     simp only [chkT,oB,cOr]
    rw [iltF h1,iltF h2,iltF h3,hf]
    cases ilt 8 (Int.ofNat l.length)<;>cases ile (Int.ofNat l.length) 60<;>rfl
theorem ok:CtxOk Tryz.prog X:=ctxOk tab (spC lg1C.spOk (spC lg2C.spOk (spC longC.spOk spN))) dpN
theorem okM:MOk Tryz.prog X:=fun g sp h=>by cases h
theorem spec (l:List Rule) (n:Net):CallSpec Tryz.prog E 13 [(.lst .rule l),(.agg [(.lst .node n.nds),(.lst .link n.lks)])] (.bool (largeB l n)) [] :=
 rfs ok okM Tryz.call13 Tryz.func13 ((run l n).trans (f0_eq l n))
noncomputable def sp:Sp U El:=fun args k=>match args with
 | [.lst .rule l,.agg [.lst .node n_nds,.lst .link n_lks]]=>k (.bool (largeB l (⟨n_nds,n_lks⟩:Net))) []
 | _=>none
theorem spOk:SpOk Tryz.prog E 13 sp:=⟨fun vs=>by unfold sp;split;exact ⟨some (_,_),fun _=>rfl⟩;exact ⟨none,fun _=>rfl⟩,fun vs k r h=>by unfold sp at h;split at h;exact ⟨_,_,spec _ ⟨_,_⟩,h⟩;cases h⟩
end large
namespace lev1
noncomputable def bd:Code:=(Tryz.f173.body).getD .skip
noncomputable def X:Ctx U El:=⟨E,tds,zeros,eqs,specOf [],100000,9,dspecOf [],fun _=>none,fun _=>none⟩
noncomputable def nmR:Norm U:=⟨[],[2],[],[],[],[],[]⟩
noncomputable def RR:Kont U El:=fun st=>normK nmR st (retFin [2] [])
noncomputable def fr0 (x:Int):St U El:=⟨[(0,(.int .i64 x))],[]⟩
noncomputable def sh0 (x:Int):R :=
 condB (ilt x (-4194304:Int)) (some ((.bool true),[])) (some ((.bool (ilt (4194304:Int) x)),[]))
theorem P0 (x):exec X (cdp [] bd) .d (fr0 x) RR (fun _ _=>none) RR=sh0 x:=by kernel_rfl
noncomputable def f0 (x:Int):R:=sh0 x
theorem T0 (x):exec X bd .d (fr0 x) RR (fun _ _=>none) RR=f0 x:=by
 refine (P0 x).trans ?_
 show _=sh0 x
 rfl
theorem run (x):runFn X bd .d nmR [2] [] [(.int .i64 x)]=f0 x:=T0 x
theorem f0_eq (x:Int):f0 x=outB (notLev x):=cOr outB _ _
theorem ok:CtxOk Tryz.prog X:=ctxOk tab spN dpN
theorem okM:MOk Tryz.prog X:=fun g sp h=>by cases h
theorem spec (x:Int):CallSpec Tryz.prog E 173 [(.int .i64 x)] (.bool (notLev x)) [] :=
 rfs ok okM Tryz.call173 Tryz.func173 ((run x).trans (f0_eq x))
noncomputable def sp:Sp U El:=fun args k=>match args with
 | [.int .i64 x]=>k (.bool (notLev x)) []
 | _=>none
theorem spOk:SpOk Tryz.prog E 173 sp:=⟨fun vs=>by unfold sp;split;exact ⟨some (_,_),fun _=>rfl⟩;exact ⟨none,fun _=>rfl⟩,fun vs k r h=>by unfold sp at h;split at h;exact ⟨_,_,spec _,h⟩;cases h⟩
end lev1
namespace lev1X
noncomputable def bd:Code:=(Tryz.f80.body).getD .skip
noncomputable def X:Ctx U El:=⟨E,tds,zeros,eqs,specOf [(173,lev1.sp)],100000,19,dspecOf [],fun _=>none,fun _=>none⟩
noncomputable def nmR:Norm U:=⟨[],[4],[],[],[],[],[]⟩
noncomputable def RR:Kont U El:=fun st=>normK nmR st (retFin [4] [])
noncomputable def nm1:Norm U:=⟨[],[],[],[],[],[],[]⟩
noncomputable def nm2:Norm U:=⟨[],[0,1,7,8],[],[],[],[],[]⟩
abbrev Y1:=R
abbrev Y2:=(List Int)→Int→Int→R
noncomputable def fr0 (l:List Int):St U El:=⟨[(0,(.lst .int l)),(1,(.fn 173 [] []))],[]⟩
noncomputable def fr1:St U El:=⟨[],[]⟩
noncomputable def fr2 (s0:List Int) (x7:Int) (x8:Int):St U El:=⟨[(0,(.lst .int s0)),(1,(.fn 173 [] [])),(7,(.int .i64 x7)),(8,(.int .i64 x8))],[]⟩
noncomputable def sh0 (l:List Int) (k2:Y2):R :=
 k2 l (Int.ofNat (List.length l)) (0:Int)
noncomputable def sh1:R :=
 some ((.int .i64 (-1:Int)),[])
noncomputable def sh2 (s0:List Int) (x7:Int) (x8:Int) (k1:Y1) (k2:Y2):R :=
 condB (ilt x8 x7) (chk (inb x8 (List.length s0)) (condB (notLev (List.getD s0 (Int.toNat x8) d_int)) (some ((.int .i64 x8),[])) (k2 s0 x7 (IntKind.wrap .i64 (x8+(1:Int)))))) (k1)
noncomputable def it2 (Kb1:Kont U El) (n:Nat):Kont U El:=iter nm2 (fun st' K'=>exec X (cdp [1,0,1,0,0] bd) .d st' K' (Eblk 0 (cutK nm1 Kb1) (fun _ _=>none)) RR) n
noncomputable def ct1:Kont U El:=fun st=>exec X (cdp [1,1] bd) .d st RR (fun _ _=>none) RR
theorem P0 (l):exec X (cdp [] bd) (.seq none .d (.seq (some nm1) (.seq none .d (.block (.loop nm2 .d))) .d)) (fr0 l) RR (fun _ _=>none) RR=sh0 l (fun y0 y1 y2=>(hid (it2 (hid ct1) 100000)) (fr2 y0 y1 y2)):=by kernel_rfl
theorem P1:ct1 (fr1)=sh1:=by kernel_rfl
theorem P2 (s0 x7 x8) (Kb1 Kb2:Kont U El):exec X (cdp [1,0,1,0,0] bd) .d (fr2 s0 x7 x8) (cutK nm2 Kb2) (Eblk 0 (cutK nm1 Kb1) (fun _ _=>none)) RR=sh2 s0 x7 x8 (Kb1 (fr1)) (fun y0 y1 y2=>Kb2 (fr2 y0 y1 y2)):=by kernel_rfl
noncomputable def f1:R:=sh1
noncomputable def f2:Nat→Y2
 | 0=>fun _ _ _=>none
 | n+1=>fun s0 x7 x8=>sh2 s0 x7 x8 f1 (f2 n)
noncomputable def f0 (l:List Int):R:=sh0 l (f2 100000)
theorem T1:(hid ct1) (fr1)=f1:=by
 refine (congrFun (hid_eq _) _).trans <| (P1).trans ?_
 show _=sh1
 rfl
theorem T2:∀ (n:Nat),∀ s0 x7 x8,it2 (hid ct1) n (fr2 s0 x7 x8)=f2 n s0 x7 x8:=by
  intro n
  induction n with
  | zero=>intros; rfl
  | succ n ih =>
    intro s0 x7 x8
    refine (P2 s0 x7 x8 (hid ct1) (it2 (hid ct1) n)).trans ?_
    show _=sh2 s0 x7 x8 f1 (f2 n)
    simp only [T1,ih]
theorem H2 (s0 x7 x8):hid (it2 (hid ct1) 100000) (fr2 s0 x7 x8)=f2 100000 s0 x7 x8:=(congrFun (hid_eq _) _).trans (T2 100000 s0 x7 x8)
theorem T0 (l):exec X bd (.seq none .d (.seq (some nm1) (.seq none .d (.block (.loop nm2 .d))) .d)) (fr0 l) RR (fun _ _=>none) RR=f0 l:=by
 refine (P0 l).trans ?_
 show _=sh0 l (f2 100000)
 simp only [H2]
theorem run (l):runFn X bd (.seq none .d (.seq (some nm1) (.seq none .d (.block (.loop nm2 .d))) .d)) nmR [4] [] [(.lst .int l),(.fn 173 [] [])]=f0 l:=T0 l
theorem f0_eq (l:List Int) (h:(nle (List.length l) 90000)=true):f0 l=outI (findZ notLev 0 l):=by
 have hl:=nleI h
 refine (grun_eq l (by omega) (fun n_ (_:Unit) i_=>f2 n_ l (Int.ofNat l.length) i_) _ (fun _=>outI (-1)) (fun n_ u_ i_ hi_=>?_) (fun n_ u_=>?_) 100000 0 () (by omega) (by omega)).trans (grun_find notLev outI l 0)
 ·show sh2 l (Int.ofNat l.length) i_ f1 (f2 n_)=_
  unfold sh2
  rw [iltT (by simp; omega),inbT hi_,toNat_nat,getD_lt hi_]
  rfl
 ·show sh2 l (Int.ofNat l.length) (l.length:Int) f1 (f2 n_)=_
  unfold sh2
  rw [iltF (by simp)]
  rfl
theorem ok:CtxOk Tryz.prog X:=ctxOk tab (spC lev1.spOk spN) dpN
theorem okM:MOk Tryz.prog X:=fun g sp h=>by cases h
theorem spec (l:List Int) (h:(nle (List.length l) 90000)=true):CallSpec Tryz.prog E 80 [(.lst .int l),(.fn 173 [] [])] (.int .i64 (findZ notLev 0 l)) [] :=
 rfs ok okM Tryz.call80 Tryz.func80 ((run l).trans (f0_eq l h))
noncomputable def sp:Sp U El:=fun args k=>match args with
 | [.lst .int l,.fn 173 [] []]=>chk (nle (List.length l) 90000) (k (.int .i64 (findZ notLev 0 l)) [])
 | _=>none
theorem spOk:SpOk Tryz.prog E 80 sp:=⟨fun vs=>by unfold sp;split;exact det_c _ _ _;exact ⟨none,fun _=>rfl⟩,fun vs k r h=>by unfold sp at h;split at h;(obtain ⟨h1,h2⟩:=chk_some h;exact ⟨_,_,spec _ h1,h2⟩);cases h⟩
end lev1X
namespace lev1C
noncomputable def bd:Code:=(Tryz.f35.body).getD .skip
noncomputable def X:Ctx U El:=⟨E,tds,zeros,eqs,specOf [(80,lev1X.sp)],100000,9,dspecOf [],fun _=>none,fun _=>none⟩
noncomputable def nmR:Norm U:=⟨[],[4],[],[],[],[],[]⟩
noncomputable def RR:Kont U El:=fun st=>normK nmR st (retFin [4] [])
noncomputable def fr0 (l:List Int):St U El:=⟨[(0,(.lst .int l)),(1,(.fn 173 [] []))],[]⟩
noncomputable def sh0 (l:List Int):R :=
 chk (nle (List.length l) 90000) (some ((.bool (ile (0:Int) (findZ notLev 0 l))),[]))
theorem P0 (l):exec X (cdp [] bd) .d (fr0 l) RR (fun _ _=>none) RR=sh0 l:=by kernel_rfl
noncomputable def f0 (l:List Int):R:=sh0 l
theorem T0 (l):exec X bd .d (fr0 l) RR (fun _ _=>none) RR=f0 l:=by
 refine (P0 l).trans ?_
 show _=sh0 l
 rfl
theorem run (l):runFn X bd .d nmR [4] [] [(.lst .int l),(.fn 173 [] [])]=f0 l:=T0 l
theorem f0_eq (l:List Int) (h:(nle (List.length l) 90000)=true):f0 l=outB (List.any l notLev):=by
 show chk _ (outB _)=_
 rw [h,chkT,findZ_any]
theorem ok:CtxOk Tryz.prog X:=ctxOk tab (spC lev1X.spOk spN) dpN
theorem okM:MOk Tryz.prog X:=fun g sp h=>by cases h
theorem spec (l:List Int) (h:(nle (List.length l) 90000)=true):CallSpec Tryz.prog E 35 [(.lst .int l),(.fn 173 [] [])] (.bool (List.any l notLev)) [] :=
 rfs ok okM Tryz.call35 Tryz.func35 ((run l).trans (f0_eq l h))
noncomputable def sp:Sp U El:=fun args k=>match args with
 | [.lst .int l,.fn 173 [] []]=>chk (nle (List.length l) 90000) (k (.bool (List.any l notLev)) [])
 | _=>none
theorem spOk:SpOk Tryz.prog E 35 sp:=⟨fun vs=>by unfold sp;split;exact det_c _ _ _;exact ⟨none,fun _=>rfl⟩,fun vs k r h=>by unfold sp at h;split at h;(obtain ⟨h1,h2⟩:=chk_some h;exact ⟨_,_,spec _ h1,h2⟩);cases h⟩
end lev1C
namespace level
noncomputable def bd:Code:=(Tryz.f149.body).getD .skip
noncomputable def X:Ctx U El:=⟨E,tds,zeros,eqs,specOf [(35,lev1C.sp)],100000,6,dspecOf [],fun _=>none,fun _=>none⟩
noncomputable def nmR:Norm U:=⟨[],[2],[],[],[],[],[]⟩
noncomputable def RR:Kont U El:=fun st=>normK nmR st (retFin [2] [])
noncomputable def fr0 (l:List Int):St U El:=⟨[(0,(.lst .int l))],[]⟩
noncomputable def sh0 (l:List Int):R :=
 chk (nle (List.length l) 90000) (some ((.bool (!(List.any l notLev))),[]))
theorem P0 (l):exec X (cdp [] bd) .d (fr0 l) RR (fun _ _=>none) RR=sh0 l:=by kernel_rfl
noncomputable def f0 (l:List Int):R:=sh0 l
theorem T0 (l):exec X bd .d (fr0 l) RR (fun _ _=>none) RR=f0 l:=by
 refine (P0 l).trans ?_
 show _=sh0 l
 rfl
theorem run (l):runFn X bd .d nmR [2] [] [(.lst .int l)]=f0 l:=T0 l
theorem f0_eq (l:List Int) (h:nle (List.length l) 90000=true):f0 l=outB (!(List.any l notLev)):=by
 show chk _ (outB _)=_
 rw [h]; rfl
theorem ok:CtxOk Tryz.prog X:=ctxOk tab (spC lev1C.spOk spN) dpN
theorem okM:MOk Tryz.prog X:=fun g sp h=>by cases h
theorem spec (l:List Int) (h:(nle (List.length l) 90000)=true):CallSpec Tryz.prog E 149 [(.lst .int l)] (.bool (!(List.any l notLev))) [] :=
 rfs ok okM Tryz.call149 Tryz.func149 ((run l).trans (f0_eq l h))
noncomputable def sp:Sp U El:=fun args k=>match args with
 | [.lst .int l]=>chk (nle (List.length l) 90000) (k (.bool (!(List.any l notLev))) [])
 | _=>none
theorem spOk:SpOk Tryz.prog E 149 sp:=⟨fun vs=>by unfold sp;split;exact det_c _ _ _;exact ⟨none,fun _=>rfl⟩,fun vs k r h=>by unfold sp at h;split at h;(obtain ⟨h1,h2⟩:=chk_some h;exact ⟨_,_,spec _ h1,h2⟩);cases h⟩
end level
namespace nd1
noncomputable def bd:Code:=(Tryz.f151.body).getD .skip
noncomputable def X:Ctx U El:=⟨E,tds,zeros,eqs,specOf [],100000,8,dspecOf [],fun _=>none,fun _=>none⟩
noncomputable def nmR:Norm U:=⟨[],[3],[],[],[],[],[]⟩
noncomputable def RR:Kont U El:=fun st=>normK nmR st (retFin [3] [])
noncomputable def fr0 (x:Node) (s:List UInt8):St U El:=⟨[(0,(.agg [(.str x.nn),(.int .i64 x.nk),(.int .i64 x.nx),(.int .i64 x.ny),(.int .i64 x.ni),(.int .i64 x.ng),(.lst .knot x.nh),(.bool x.np),(.int .i64 x.nr)])),(1,(.pcs [(.str s)] 0))],[]⟩
noncomputable def sh0 (x:Node) (s:List UInt8):R :=
 some ((.bool (x.nn == s)),[])
theorem P0 (x s):exec X (cdp [] bd) .d (fr0 x s) RR (fun _ _=>none) RR=sh0 x s:=by kernel_rfl
noncomputable def f0 (x:Node) (s:List UInt8):R:=sh0 x s
theorem T0 (x s):exec X bd .d (fr0 x s) RR (fun _ _=>none) RR=f0 x s:=by
 refine (P0 x s).trans ?_
 show _=sh0 x s
 rfl
theorem run (x s):runFn X bd .d nmR [3] [] [(.agg [(.str x.nn),(.int .i64 x.nk),(.int .i64 x.nx),(.int .i64 x.ny),(.int .i64 x.ni),(.int .i64 x.ng),(.lst .knot x.nh),(.bool x.np),(.int .i64 x.nr)]),(.pcs [(.str s)] 0)]=f0 x s:=T0 x s
theorem f0_eq (x:Node) (s:List UInt8):f0 x s=outB (isNode s x):=rfl
theorem ok:CtxOk Tryz.prog X:=ctxOk tab spN dpN
theorem okM:MOk Tryz.prog X:=fun g sp h=>by cases h
theorem spec (x:Node) (s:List UInt8):CallSpec Tryz.prog E 151 [(.agg [(.str x.nn),(.int .i64 x.nk),(.int .i64 x.nx),(.int .i64 x.ny),(.int .i64 x.ni),(.int .i64 x.ng),(.lst .knot x.nh),(.bool x.np),(.int .i64 x.nr)]),(.pcs [(.str s)] 0)] (.bool ((isNode s) x)) [] :=
 rfs ok okM Tryz.call151 Tryz.func151 ((run x s).trans (f0_eq x s))
noncomputable def sp:Sp U El:=fun args k=>match args with
 | [.agg [.str x_nn,.int .i64 x_nk,.int .i64 x_nx,.int .i64 x_ny,.int .i64 x_ni,.int .i64 x_ng,.lst .knot x_nh,.bool x_np,.int .i64 x_nr],.pcs [.str s] 0]=>k (.bool ((isNode s) (⟨x_nn,x_nk,x_nx,x_ny,x_ni,x_ng,x_nh,x_np,x_nr⟩:Node))) []
 | _=>none
theorem spOk:SpOk Tryz.prog E 151 sp:=⟨fun vs=>by unfold sp;split;exact ⟨some (_,_),fun _=>rfl⟩;exact ⟨none,fun _=>rfl⟩,fun vs k r h=>by unfold sp at h;split at h;exact ⟨_,_,spec ⟨_,_,_,_,_,_,_,_,_⟩ _,h⟩;cases h⟩
end nd1
namespace nd1X
noncomputable def bd:Code:=(Tryz.f109.body).getD .skip
noncomputable def X:Ctx U El:=⟨E,tds,zeros,eqs,specOf [(151,nd1.sp)],100000,19,dspecOf [],fun _=>none,fun _=>none⟩
noncomputable def nmR:Norm U:=⟨[],[4],[],[],[],[],[]⟩
noncomputable def RR:Kont U El:=fun st=>normK nmR st (retFin [4] [])
noncomputable def nm1:Norm U:=⟨[],[],[],[],[],[],[]⟩
noncomputable def nm2:Norm U:=⟨[],[0,1,7,8],[],[],[],[],[]⟩
abbrev Y1:=R
abbrev Y2:=(List Node)→(List UInt8)→Int→Int→R
noncomputable def fr0 (l:List Node) (s:List UInt8):St U El:=⟨[(0,(.lst .node l)),(1,(.fn 151 [] [(.pcs [(.str s)] 0)]))],[]⟩
noncomputable def fr1:St U El:=⟨[],[]⟩
noncomputable def fr2 (s0:List Node) (f1c_0:List UInt8) (x7:Int) (x8:Int):St U El:=⟨[(0,(.lst .node s0)),(1,(.fn 151 [] [(.pcs [(.str f1c_0)] 0)])),(7,(.int .i64 x7)),(8,(.int .i64 x8))],[]⟩
noncomputable def sh0 (l:List Node) (s:List UInt8) (k2:Y2):R :=
 k2 l s (Int.ofNat (List.length l)) (0:Int)
noncomputable def sh1:R :=
 some ((.int .i64 (-1:Int)),[])
noncomputable def sh2 (s0:List Node) (f1c_0:List UInt8) (x7:Int) (x8:Int) (k1:Y1) (k2:Y2):R :=
 condB (ilt x8 x7) (chk (inb x8 (List.length s0)) (condB ((isNode f1c_0) (List.getD s0 (Int.toNat x8) d_node)) (some ((.int .i64 x8),[])) (k2 s0 f1c_0 x7 (IntKind.wrap .i64 (x8+(1:Int)))))) (k1)
noncomputable def it2 (Kb1:Kont U El) (n:Nat):Kont U El:=iter nm2 (fun st' K'=>exec X (cdp [1,0,1,0,0] bd) .d st' K' (Eblk 0 (cutK nm1 Kb1) (fun _ _=>none)) RR) n
noncomputable def ct1:Kont U El:=fun st=>exec X (cdp [1,1] bd) .d st RR (fun _ _=>none) RR
theorem P0 (l s):exec X (cdp [] bd) (.seq none .d (.seq (some nm1) (.seq none .d (.block (.loop nm2 .d))) .d)) (fr0 l s) RR (fun _ _=>none) RR=sh0 l s (fun y0 y1 y2 y3=>(hid (it2 (hid ct1) 100000)) (fr2 y0 y1 y2 y3)):=by kernel_rfl
theorem P1:ct1 (fr1)=sh1:=by kernel_rfl
theorem P2 (s0 f1c_0 x7 x8) (Kb1 Kb2:Kont U El):exec X (cdp [1,0,1,0,0] bd) .d (fr2 s0 f1c_0 x7 x8) (cutK nm2 Kb2) (Eblk 0 (cutK nm1 Kb1) (fun _ _=>none)) RR=sh2 s0 f1c_0 x7 x8 (Kb1 (fr1)) (fun y0 y1 y2 y3=>Kb2 (fr2 y0 y1 y2 y3)):=by kernel_rfl
noncomputable def f1:R:=sh1
noncomputable def f2:Nat→Y2
 | 0=>fun _ _ _ _=>none
 | n+1=>fun s0 f1c_0 x7 x8=>sh2 s0 f1c_0 x7 x8 f1 (f2 n)
noncomputable def f0 (l:List Node) (s:List UInt8):R:=sh0 l s (f2 100000)
theorem T1:(hid ct1) (fr1)=f1:=by
 refine (congrFun (hid_eq _) _).trans <| (P1).trans ?_
 show _=sh1
 rfl
theorem T2:∀ (n:Nat),∀ s0 f1c_0 x7 x8,it2 (hid ct1) n (fr2 s0 f1c_0 x7 x8)=f2 n s0 f1c_0 x7 x8:=by
  intro n
  induction n with
  | zero=>intros; rfl
  | succ n ih =>
    intro s0 f1c_0 x7 x8
    refine (P2 s0 f1c_0 x7 x8 (hid ct1) (it2 (hid ct1) n)).trans ?_
    show _=sh2 s0 f1c_0 x7 x8 f1 (f2 n)
    simp only [T1,ih]
theorem H2 (s0 f1c_0 x7 x8):hid (it2 (hid ct1) 100000) (fr2 s0 f1c_0 x7 x8)=f2 100000 s0 f1c_0 x7 x8:=(congrFun (hid_eq _) _).trans (T2 100000 s0 f1c_0 x7 x8)
theorem T0 (l s):exec X bd (.seq none .d (.seq (some nm1) (.seq none .d (.block (.loop nm2 .d))) .d)) (fr0 l s) RR (fun _ _=>none) RR=f0 l s:=by
 refine (P0 l s).trans ?_
 show _=sh0 l s (f2 100000)
 simp only [H2]
theorem run (l s):runFn X bd (.seq none .d (.seq (some nm1) (.seq none .d (.block (.loop nm2 .d))) .d)) nmR [4] [] [(.lst .node l),(.fn 151 [] [(.pcs [(.str s)] 0)])]=f0 l s:=T0 l s
theorem f0_eq (l:List Node) (s:List UInt8) (h:(nle (List.length l) 90000)=true):f0 l s=outI (findZ (isNode s) 0 l):=by
 have hl:=nleI h
 refine (grun_eq l (by omega) (fun n_ (_:Unit) i_=>f2 n_ l s (Int.ofNat l.length) i_) _ (fun _=>outI (-1)) (fun n_ u_ i_ hi_=>?_) (fun n_ u_=>?_) 100000 0 () (by omega) (by omega)).trans (grun_find (isNode s) outI l 0)
 ·show sh2 l s (Int.ofNat l.length) i_ f1 (f2 n_)=_
  unfold sh2
  rw [iltT (by simp; omega),inbT hi_,toNat_nat,getD_lt hi_]
  rfl
 ·show sh2 l s (Int.ofNat l.length) (l.length:Int) f1 (f2 n_)=_
  unfold sh2
  rw [iltF (by simp)]
  rfl
theorem ok:CtxOk Tryz.prog X:=ctxOk tab (spC nd1.spOk spN) dpN
theorem okM:MOk Tryz.prog X:=fun g sp h=>by cases h
theorem spec (l:List Node) (s:List UInt8) (h:(nle (List.length l) 90000)=true):CallSpec Tryz.prog E 109 [(.lst .node l),(.fn 151 [] [(.pcs [(.str s)] 0)])] (.int .i64 (findZ (isNode s) 0 l)) [] :=
 rfs ok okM Tryz.call109 Tryz.func109 ((run l s).trans (f0_eq l s h))
noncomputable def sp:Sp U El:=fun args k=>match args with
 | [.lst .node l,.fn 151 [] [.pcs [.str s] 0]]=>chk (nle (List.length l) 90000) (k (.int .i64 (findZ (isNode s) 0 l)) [])
 | _=>none
theorem spOk:SpOk Tryz.prog E 109 sp:=⟨fun vs=>by unfold sp;split;exact det_c _ _ _;exact ⟨none,fun _=>rfl⟩,fun vs k r h=>by unfold sp at h;split at h;(obtain ⟨h1,h2⟩:=chk_some h;exact ⟨_,_,spec _ _ h1,h2⟩);cases h⟩
end nd1X
namespace lk1
noncomputable def bd:Code:=(Tryz.f140.body).getD .skip
noncomputable def X:Ctx U El:=⟨E,tds,zeros,eqs,specOf [],100000,8,dspecOf [],fun _=>none,fun _=>none⟩
noncomputable def nmR:Norm U:=⟨[],[3],[],[],[],[],[]⟩
noncomputable def RR:Kont U El:=fun st=>normK nmR st (retFin [3] [])
noncomputable def fr0 (x:Lnk) (s:List UInt8):St U El:=⟨[(0,(.agg [(.str x.ln),(.str x.lf),(.str x.lt),(.int .i64 x.lk),(.int .i64 x.ll),(.int .i64 x.lu),(.int .i64 x.ld),(.str x.lc),(.int .i64 x.lw),(.int .i64 x.lh),(.lst .knot x.lv)])),(1,(.pcs [(.str s)] 0))],[]⟩
noncomputable def sh0 (x:Lnk) (s:List UInt8):R :=
 some ((.bool (x.ln == s)),[])
theorem P0 (x s):exec X (cdp [] bd) .d (fr0 x s) RR (fun _ _=>none) RR=sh0 x s:=by kernel_rfl
noncomputable def f0 (x:Lnk) (s:List UInt8):R:=sh0 x s
theorem T0 (x s):exec X bd .d (fr0 x s) RR (fun _ _=>none) RR=f0 x s:=by
 refine (P0 x s).trans ?_
 show _=sh0 x s
 rfl
theorem run (x s):runFn X bd .d nmR [3] [] [(.agg [(.str x.ln),(.str x.lf),(.str x.lt),(.int .i64 x.lk),(.int .i64 x.ll),(.int .i64 x.lu),(.int .i64 x.ld),(.str x.lc),(.int .i64 x.lw),(.int .i64 x.lh),(.lst .knot x.lv)]),(.pcs [(.str s)] 0)]=f0 x s:=T0 x s
theorem f0_eq (x:Lnk) (s:List UInt8):f0 x s=outB (isLink s x):=rfl
theorem ok:CtxOk Tryz.prog X:=ctxOk tab spN dpN
theorem okM:MOk Tryz.prog X:=fun g sp h=>by cases h
theorem spec (x:Lnk) (s:List UInt8):CallSpec Tryz.prog E 140 [(.agg [(.str x.ln),(.str x.lf),(.str x.lt),(.int .i64 x.lk),(.int .i64 x.ll),(.int .i64 x.lu),(.int .i64 x.ld),(.str x.lc),(.int .i64 x.lw),(.int .i64 x.lh),(.lst .knot x.lv)]),(.pcs [(.str s)] 0)] (.bool ((isLink s) x)) [] :=
 rfs ok okM Tryz.call140 Tryz.func140 ((run x s).trans (f0_eq x s))
noncomputable def sp:Sp U El:=fun args k=>match args with
 | [.agg [.str x_ln,.str x_lf,.str x_lt,.int .i64 x_lk,.int .i64 x_ll,.int .i64 x_lu,.int .i64 x_ld,.str x_lc,.int .i64 x_lw,.int .i64 x_lh,.lst .knot x_lv],.pcs [.str s] 0]=>k (.bool ((isLink s) (⟨x_ln,x_lf,x_lt,x_lk,x_ll,x_lu,x_ld,x_lc,x_lw,x_lh,x_lv⟩:Lnk))) []
 | _=>none
theorem spOk:SpOk Tryz.prog E 140 sp:=⟨fun vs=>by unfold sp;split;exact ⟨some (_,_),fun _=>rfl⟩;exact ⟨none,fun _=>rfl⟩,fun vs k r h=>by unfold sp at h;split at h;exact ⟨_,_,spec ⟨_,_,_,_,_,_,_,_,_,_,_⟩ _,h⟩;cases h⟩
end lk1
namespace lk1X
noncomputable def bd:Code:=(Tryz.f110.body).getD .skip
noncomputable def X:Ctx U El:=⟨E,tds,zeros,eqs,specOf [(140,lk1.sp)],100000,19,dspecOf [],fun _=>none,fun _=>none⟩
noncomputable def nmR:Norm U:=⟨[],[4],[],[],[],[],[]⟩
noncomputable def RR:Kont U El:=fun st=>normK nmR st (retFin [4] [])
noncomputable def nm1:Norm U:=⟨[],[],[],[],[],[],[]⟩
noncomputable def nm2:Norm U:=⟨[],[0,1,7,8],[],[],[],[],[]⟩
abbrev Y1:=R
abbrev Y2:=(List Lnk)→(List UInt8)→Int→Int→R
noncomputable def fr0 (l:List Lnk) (s:List UInt8):St U El:=⟨[(0,(.lst .link l)),(1,(.fn 140 [] [(.pcs [(.str s)] 0)]))],[]⟩
noncomputable def fr1:St U El:=⟨[],[]⟩
noncomputable def fr2 (s0:List Lnk) (f1c_0:List UInt8) (x7:Int) (x8:Int):St U El:=⟨[(0,(.lst .link s0)),(1,(.fn 140 [] [(.pcs [(.str f1c_0)] 0)])),(7,(.int .i64 x7)),(8,(.int .i64 x8))],[]⟩
noncomputable def sh0 (l:List Lnk) (s:List UInt8) (k2:Y2):R :=
 k2 l s (Int.ofNat (List.length l)) (0:Int)
noncomputable def sh1:R :=
 some ((.int .i64 (-1:Int)),[])
noncomputable def sh2 (s0:List Lnk) (f1c_0:List UInt8) (x7:Int) (x8:Int) (k1:Y1) (k2:Y2):R :=
 condB (ilt x8 x7) (chk (inb x8 (List.length s0)) (condB ((isLink f1c_0) (List.getD s0 (Int.toNat x8) d_link)) (some ((.int .i64 x8),[])) (k2 s0 f1c_0 x7 (IntKind.wrap .i64 (x8+(1:Int)))))) (k1)
noncomputable def it2 (Kb1:Kont U El) (n:Nat):Kont U El:=iter nm2 (fun st' K'=>exec X (cdp [1,0,1,0,0] bd) .d st' K' (Eblk 0 (cutK nm1 Kb1) (fun _ _=>none)) RR) n
noncomputable def ct1:Kont U El:=fun st=>exec X (cdp [1,1] bd) .d st RR (fun _ _=>none) RR
theorem P0 (l s):exec X (cdp [] bd) (.seq none .d (.seq (some nm1) (.seq none .d (.block (.loop nm2 .d))) .d)) (fr0 l s) RR (fun _ _=>none) RR=sh0 l s (fun y0 y1 y2 y3=>(hid (it2 (hid ct1) 100000)) (fr2 y0 y1 y2 y3)):=by kernel_rfl
theorem P1:ct1 (fr1)=sh1:=by kernel_rfl
theorem P2 (s0 f1c_0 x7 x8) (Kb1 Kb2:Kont U El):exec X (cdp [1,0,1,0,0] bd) .d (fr2 s0 f1c_0 x7 x8) (cutK nm2 Kb2) (Eblk 0 (cutK nm1 Kb1) (fun _ _=>none)) RR=sh2 s0 f1c_0 x7 x8 (Kb1 (fr1)) (fun y0 y1 y2 y3=>Kb2 (fr2 y0 y1 y2 y3)):=by kernel_rfl
noncomputable def f1:R:=sh1
noncomputable def f2:Nat→Y2
 | 0=>fun _ _ _ _=>none
 | n+1=>fun s0 f1c_0 x7 x8=>sh2 s0 f1c_0 x7 x8 f1 (f2 n)
noncomputable def f0 (l:List Lnk) (s:List UInt8):R:=sh0 l s (f2 100000)
theorem T1:(hid ct1) (fr1)=f1:=by
 refine (congrFun (hid_eq _) _).trans <| (P1).trans ?_
 show _=sh1
 rfl
theorem T2:∀ (n:Nat),∀ s0 f1c_0 x7 x8,it2 (hid ct1) n (fr2 s0 f1c_0 x7 x8)=f2 n s0 f1c_0 x7 x8:=by
  intro n
  induction n with
  | zero=>intros; rfl
  | succ n ih =>
    intro s0 f1c_0 x7 x8
    refine (P2 s0 f1c_0 x7 x8 (hid ct1) (it2 (hid ct1) n)).trans ?_
    show _=sh2 s0 f1c_0 x7 x8 f1 (f2 n)
    simp only [T1,ih]
theorem H2 (s0 f1c_0 x7 x8):hid (it2 (hid ct1) 100000) (fr2 s0 f1c_0 x7 x8)=f2 100000 s0 f1c_0 x7 x8:=(congrFun (hid_eq _) _).trans (T2 100000 s0 f1c_0 x7 x8)
theorem T0 (l s):exec X bd (.seq none .d (.seq (some nm1) (.seq none .d (.block (.loop nm2 .d))) .d)) (fr0 l s) RR (fun _ _=>none) RR=f0 l s:=by
 refine (P0 l s).trans ?_
 show _=sh0 l s (f2 100000)
 simp only [H2]
theorem run (l s):runFn X bd (.seq none .d (.seq (some nm1) (.seq none .d (.block (.loop nm2 .d))) .d)) nmR [4] [] [(.lst .link l),(.fn 140 [] [(.pcs [(.str s)] 0)])]=f0 l s:=T0 l s
theorem f0_eq (l:List Lnk) (s:List UInt8) (h:(nle (List.length l) 90000)=true):f0 l s=outI (findZ (isLink s) 0 l):=by
 have hl:=nleI h
 refine (grun_eq l (by omega) (fun n_ (_:Unit) i_=>f2 n_ l s (Int.ofNat l.length) i_) _ (fun _=>outI (-1)) (fun n_ u_ i_ hi_=>?_) (fun n_ u_=>?_) 100000 0 () (by omega) (by omega)).trans (grun_find (isLink s) outI l 0)
 ·show sh2 l s (Int.ofNat l.length) i_ f1 (f2 n_)=_
  unfold sh2
  rw [iltT (by simp; omega),inbT hi_,toNat_nat,getD_lt hi_]
  rfl
 ·show sh2 l s (Int.ofNat l.length) (l.length:Int) f1 (f2 n_)=_
  unfold sh2
  rw [iltF (by simp)]
  rfl
theorem ok:CtxOk Tryz.prog X:=ctxOk tab (spC lk1.spOk spN) dpN
theorem okM:MOk Tryz.prog X:=fun g sp h=>by cases h
theorem spec (l:List Lnk) (s:List UInt8) (h:(nle (List.length l) 90000)=true):CallSpec Tryz.prog E 110 [(.lst .link l),(.fn 140 [] [(.pcs [(.str s)] 0)])] (.int .i64 (findZ (isLink s) 0 l)) [] :=
 rfs ok okM Tryz.call110 Tryz.func110 ((run l s).trans (f0_eq l s h))
noncomputable def sp:Sp U El:=fun args k=>match args with
 | [.lst .link l,.fn 140 [] [.pcs [.str s] 0]]=>chk (nle (List.length l) 90000) (k (.int .i64 (findZ (isLink s) 0 l)) [])
 | _=>none
theorem spOk:SpOk Tryz.prog E 110 sp:=⟨fun vs=>by unfold sp;split;exact det_c _ _ _;exact ⟨none,fun _=>rfl⟩,fun vs k r h=>by unfold sp at h;split at h;(obtain ⟨h1,h2⟩:=chk_some h;exact ⟨_,_,spec _ _ h1,h2⟩);cases h⟩
end lk1X
namespace gv1
noncomputable def bd:Code:=(Tryz.f112.body).getD .skip
noncomputable def X:Ctx U El:=⟨E,tds,zeros,eqs,specOf [],100000,9,dspecOf [],fun _=>none,fun _=>none⟩
noncomputable def nmR:Norm U:=⟨[],[3],[],[],[],[],[]⟩
noncomputable def RR:Kont U El:=fun st=>normK nmR st (retFin [3] [])
noncomputable def fr0 (x:Node) (s:List UInt8) (b:Bool) (v:Int):St U El:=⟨[(0,(.agg [(.str x.nn),(.int .i64 x.nk),(.int .i64 x.nx),(.int .i64 x.ny),(.int .i64 x.ni),(.int .i64 x.ng),(.lst .knot x.nh),(.bool x.np),(.int .i64 x.nr)])),(1,(.pcs [(.str s),(.bool b),(.int .i64 v)] 0))],[]⟩
noncomputable def sh0 (x:Node) (s:List UInt8) (b:Bool) (v:Int):R :=
 some ((.bool (x.nn == s)),[])
theorem P0 (x s b v):exec X (cdp [] bd) .d (fr0 x s b v) RR (fun _ _=>none) RR=sh0 x s b v:=by kernel_rfl
noncomputable def f0 (x:Node) (s:List UInt8) (b:Bool) (v:Int):R:=sh0 x s b v
theorem T0 (x s b v):exec X bd .d (fr0 x s b v) RR (fun _ _=>none) RR=f0 x s b v:=by
 refine (P0 x s b v).trans ?_
 show _=sh0 x s b v
 rfl
theorem run (x s b v):runFn X bd .d nmR [3] [] [(.agg [(.str x.nn),(.int .i64 x.nk),(.int .i64 x.nx),(.int .i64 x.ny),(.int .i64 x.ni),(.int .i64 x.ng),(.lst .knot x.nh),(.bool x.np),(.int .i64 x.nr)]),(.pcs [(.str s),(.bool b),(.int .i64 v)] 0)]=f0 x s b v:=T0 x s b v
theorem f0_eq (x:Node) (s:List UInt8) (b:Bool) (v:Int):f0 x s b v=outB (isNode s x):=rfl
theorem ok:CtxOk Tryz.prog X:=ctxOk tab spN dpN
theorem okM:MOk Tryz.prog X:=fun g sp h=>by cases h
theorem spec (x:Node) (s:List UInt8) (b:Bool) (v:Int):CallSpec Tryz.prog E 112 [(.agg [(.str x.nn),(.int .i64 x.nk),(.int .i64 x.nx),(.int .i64 x.ny),(.int .i64 x.ni),(.int .i64 x.ng),(.lst .knot x.nh),(.bool x.np),(.int .i64 x.nr)]),(.pcs [(.str s),(.bool b),(.int .i64 v)] 0)] (.bool ((isNode s) x)) [] :=
 rfs ok okM Tryz.call112 Tryz.func112 ((run x s b v).trans (f0_eq x s b v))
noncomputable def sp:Sp U El:=fun args k=>match args with
 | [.agg [.str x_nn,.int .i64 x_nk,.int .i64 x_nx,.int .i64 x_ny,.int .i64 x_ni,.int .i64 x_ng,.lst .knot x_nh,.bool x_np,.int .i64 x_nr],.pcs [.str s,.bool b,.int .i64 v] 0]=>k (.bool ((isNode s) (⟨x_nn,x_nk,x_nx,x_ny,x_ni,x_ng,x_nh,x_np,x_nr⟩:Node))) []
 | _=>none
theorem spOk:SpOk Tryz.prog E 112 sp:=⟨fun vs=>by unfold sp;split;exact ⟨some (_,_),fun _=>rfl⟩;exact ⟨none,fun _=>rfl⟩,fun vs k r h=>by unfold sp at h;split at h;exact ⟨_,_,spec ⟨_,_,_,_,_,_,_,_,_⟩ _ _ _,h⟩;cases h⟩
end gv1
namespace gv1X
noncomputable def bd:Code:=(Tryz.f109.body).getD .skip
noncomputable def X:Ctx U El:=⟨E,tds,zeros,eqs,specOf [(112,gv1.sp)],100000,19,dspecOf [],fun _=>none,fun _=>none⟩
noncomputable def nmR:Norm U:=⟨[],[4],[],[],[],[],[]⟩
noncomputable def RR:Kont U El:=fun st=>normK nmR st (retFin [4] [])
noncomputable def nm1:Norm U:=⟨[],[],[],[],[],[],[]⟩
noncomputable def nm2:Norm U:=⟨[],[0,1,7,8],[],[],[],[],[]⟩
abbrev Y1:=R
abbrev Y2:=(List Node)→(List UInt8)→Bool→Int→Int→Int→R
noncomputable def fr0 (l:List Node) (s:List UInt8) (b:Bool) (v:Int):St U El:=⟨[(0,(.lst .node l)),(1,(.fn 112 [] [(.pcs [(.str s),(.bool b),(.int .i64 v)] 0)]))],[]⟩
noncomputable def fr1:St U El:=⟨[],[]⟩
noncomputable def fr2 (s0:List Node) (f1c_0:List UInt8) (f1c_1:Bool) (f1c_2:Int) (x7:Int) (x8:Int):St U El:=⟨[(0,(.lst .node s0)),(1,(.fn 112 [] [(.pcs [(.str f1c_0),(.bool f1c_1),(.int .i64 f1c_2)] 0)])),(7,(.int .i64 x7)),(8,(.int .i64 x8))],[]⟩
noncomputable def sh0 (l:List Node) (s:List UInt8) (b:Bool) (v:Int) (k2:Y2):R :=
 k2 l s b v (Int.ofNat (List.length l)) (0:Int)
noncomputable def sh1:R :=
 some ((.int .i64 (-1:Int)),[])
noncomputable def sh2 (s0:List Node) (f1c_0:List UInt8) (f1c_1:Bool) (f1c_2:Int) (x7:Int) (x8:Int) (k1:Y1) (k2:Y2):R :=
 condB (ilt x8 x7) (chk (inb x8 (List.length s0)) (condB ((isNode f1c_0) (List.getD s0 (Int.toNat x8) d_node)) (some ((.int .i64 x8),[])) (k2 s0 f1c_0 f1c_1 f1c_2 x7 (IntKind.wrap .i64 (x8+(1:Int)))))) (k1)
noncomputable def it2 (Kb1:Kont U El) (n:Nat):Kont U El:=iter nm2 (fun st' K'=>exec X (cdp [1,0,1,0,0] bd) .d st' K' (Eblk 0 (cutK nm1 Kb1) (fun _ _=>none)) RR) n
noncomputable def ct1:Kont U El:=fun st=>exec X (cdp [1,1] bd) .d st RR (fun _ _=>none) RR
theorem P0 (l s b v):exec X (cdp [] bd) (.seq none .d (.seq (some nm1) (.seq none .d (.block (.loop nm2 .d))) .d)) (fr0 l s b v) RR (fun _ _=>none) RR=sh0 l s b v (fun y0 y1 y2 y3 y4 y5=>(hid (it2 (hid ct1) 100000)) (fr2 y0 y1 y2 y3 y4 y5)):=by kernel_rfl
theorem P1:ct1 (fr1)=sh1:=by kernel_rfl
theorem P2 (s0 f1c_0 f1c_1 f1c_2 x7 x8) (Kb1 Kb2:Kont U El):exec X (cdp [1,0,1,0,0] bd) .d (fr2 s0 f1c_0 f1c_1 f1c_2 x7 x8) (cutK nm2 Kb2) (Eblk 0 (cutK nm1 Kb1) (fun _ _=>none)) RR=sh2 s0 f1c_0 f1c_1 f1c_2 x7 x8 (Kb1 (fr1)) (fun y0 y1 y2 y3 y4 y5=>Kb2 (fr2 y0 y1 y2 y3 y4 y5)):=by kernel_rfl
noncomputable def f1:R:=sh1
noncomputable def f2:Nat→Y2
 | 0=>fun _ _ _ _ _ _=>none
 | n+1=>fun s0 f1c_0 f1c_1 f1c_2 x7 x8=>sh2 s0 f1c_0 f1c_1 f1c_2 x7 x8 f1 (f2 n)
noncomputable def f0 (l:List Node) (s:List UInt8) (b:Bool) (v:Int):R:=sh0 l s b v (f2 100000)
theorem T1:(hid ct1) (fr1)=f1:=by
 refine (congrFun (hid_eq _) _).trans <| (P1).trans ?_
 show _=sh1
 rfl
theorem T2:∀ (n:Nat),∀ s0 f1c_0 f1c_1 f1c_2 x7 x8,it2 (hid ct1) n (fr2 s0 f1c_0 f1c_1 f1c_2 x7 x8)=f2 n s0 f1c_0 f1c_1 f1c_2 x7 x8:=by
  intro n
  induction n with
  | zero=>intros; rfl
  | succ n ih =>
    intro s0 f1c_0 f1c_1 f1c_2 x7 x8
    refine (P2 s0 f1c_0 f1c_1 f1c_2 x7 x8 (hid ct1) (it2 (hid ct1) n)).trans ?_
    show _=sh2 s0 f1c_0 f1c_1 f1c_2 x7 x8 f1 (f2 n)
    simp only [T1,ih]
theorem H2 (s0 f1c_0 f1c_1 f1c_2 x7 x8):hid (it2 (hid ct1) 100000) (fr2 s0 f1c_0 f1c_1 f1c_2 x7 x8)=f2 100000 s0 f1c_0 f1c_1 f1c_2 x7 x8:=(congrFun (hid_eq _) _).trans (T2 100000 s0 f1c_0 f1c_1 f1c_2 x7 x8)
theorem T0 (l s b v):exec X bd (.seq none .d (.seq (some nm1) (.seq none .d (.block (.loop nm2 .d))) .d)) (fr0 l s b v) RR (fun _ _=>none) RR=f0 l s b v:=by
 refine (P0 l s b v).trans ?_
 show _=sh0 l s b v (f2 100000)
 simp only [H2]
theorem run (l s b v):runFn X bd (.seq none .d (.seq (some nm1) (.seq none .d (.block (.loop nm2 .d))) .d)) nmR [4] [] [(.lst .node l),(.fn 112 [] [(.pcs [(.str s),(.bool b),(.int .i64 v)] 0)])]=f0 l s b v:=T0 l s b v
theorem f0_eq (l:List Node) (s:List UInt8) (b:Bool) (v:Int) (h:(nle (List.length l) 90000)=true):f0 l s b v=outI (findZ (isNode s) 0 l):=by
 have hl:=nleI h
 refine (grun_eq l (by omega) (fun n_ (_:Unit) i_=>f2 n_ l s b v (Int.ofNat l.length) i_) _ (fun _=>outI (-1)) (fun n_ u_ i_ hi_=>?_) (fun n_ u_=>?_) 100000 0 () (by omega) (by omega)).trans (grun_find (isNode s) outI l 0)
 ·show sh2 l s b v (Int.ofNat l.length) i_ f1 (f2 n_)=_
  unfold sh2
  rw [iltT (by simp; omega),inbT hi_,toNat_nat,getD_lt hi_]
  rfl
 ·show sh2 l s b v (Int.ofNat l.length) (l.length:Int) f1 (f2 n_)=_
  unfold sh2
  rw [iltF (by simp)]
  rfl
theorem ok:CtxOk Tryz.prog X:=ctxOk tab (spC gv1.spOk spN) dpN
theorem okM:MOk Tryz.prog X:=fun g sp h=>by cases h
theorem spec (l:List Node) (s:List UInt8) (b:Bool) (v:Int) (h:(nle (List.length l) 90000)=true):CallSpec Tryz.prog E 109 [(.lst .node l),(.fn 112 [] [(.pcs [(.str s),(.bool b),(.int .i64 v)] 0)])] (.int .i64 (findZ (isNode s) 0 l)) [] :=
 rfs ok okM Tryz.call109 Tryz.func109 ((run l s b v).trans (f0_eq l s b v h))
noncomputable def sp:Sp U El:=fun args k=>match args with
 | [.lst .node l,.fn 112 [] [.pcs [.str s,.bool b,.int .i64 v] 0]]=>chk (nle (List.length l) 90000) (k (.int .i64 (findZ (isNode s) 0 l)) [])
 | _=>none
theorem spOk:SpOk Tryz.prog E 109 sp:=⟨fun vs=>by unfold sp;split;exact det_c _ _ _;exact ⟨none,fun _=>rfl⟩,fun vs k r h=>by unfold sp at h;split at h;(obtain ⟨h1,h2⟩:=chk_some h;exact ⟨_,_,spec _ _ _ _ h1,h2⟩);cases h⟩
end gv1X
namespace gv1C
noncomputable def bd:Code:=(Tryz.f57.body).getD .skip
noncomputable def X:Ctx U El:=⟨E,tds,zeros,eqs,specOf [(109,gv1X.sp)],100000,9,dspecOf [],fun _=>none,fun _=>none⟩
noncomputable def nmR:Norm U:=⟨[],[4],[],[],[],[],[]⟩
noncomputable def RR:Kont U El:=fun st=>normK nmR st (retFin [4] [])
noncomputable def fr0 (l:List Node) (s:List UInt8) (b:Bool) (v:Int):St U El:=⟨[(0,(.lst .node l)),(1,(.fn 112 [] [(.pcs [(.str s),(.bool b),(.int .i64 v)] 0)]))],[]⟩
noncomputable def sh0 (l:List Node) (s:List UInt8) (b:Bool) (v:Int):R :=
 chk (nle (List.length l) 90000) (some ((.bool (ile (0:Int) (findZ (isNode s) 0 l))),[]))
theorem P0 (l s b v):exec X (cdp [] bd) .d (fr0 l s b v) RR (fun _ _=>none) RR=sh0 l s b v:=by kernel_rfl
noncomputable def f0 (l:List Node) (s:List UInt8) (b:Bool) (v:Int):R:=sh0 l s b v
theorem T0 (l s b v):exec X bd .d (fr0 l s b v) RR (fun _ _=>none) RR=f0 l s b v:=by
 refine (P0 l s b v).trans ?_
 show _=sh0 l s b v
 rfl
theorem run (l s b v):runFn X bd .d nmR [4] [] [(.lst .node l),(.fn 112 [] [(.pcs [(.str s),(.bool b),(.int .i64 v)] 0)])]=f0 l s b v:=T0 l s b v
theorem f0_eq (l:List Node) (s:List UInt8) (b:Bool) (v:Int) (h:(nle (List.length l) 90000)=true):f0 l s b v=outB (List.any l (isNode s)):=by
 show chk _ (outB _)=_
 rw [h,chkT,findZ_any]
theorem ok:CtxOk Tryz.prog X:=ctxOk tab (spC gv1X.spOk spN) dpN
theorem okM:MOk Tryz.prog X:=fun g sp h=>by cases h
theorem spec (l:List Node) (s:List UInt8) (b:Bool) (v:Int) (h:(nle (List.length l) 90000)=true):CallSpec Tryz.prog E 57 [(.lst .node l),(.fn 112 [] [(.pcs [(.str s),(.bool b),(.int .i64 v)] 0)])] (.bool (List.any l (isNode s))) [] :=
 rfs ok okM Tryz.call57 Tryz.func57 ((run l s b v).trans (f0_eq l s b v h))
noncomputable def sp:Sp U El:=fun args k=>match args with
 | [.lst .node l,.fn 112 [] [.pcs [.str s,.bool b,.int .i64 v] 0]]=>chk (nle (List.length l) 90000) (k (.bool (List.any l (isNode s))) [])
 | _=>none
theorem spOk:SpOk Tryz.prog E 57 sp:=⟨fun vs=>by unfold sp;split;exact det_c _ _ _;exact ⟨none,fun _=>rfl⟩,fun vs k r h=>by unfold sp at h;split at h;(obtain ⟨h1,h2⟩:=chk_some h;exact ⟨_,_,spec _ _ _ _ h1,h2⟩);cases h⟩
end gv1C
namespace ho11
noncomputable def bd:Code:=(Tryz.f121.body).getD .skip
noncomputable def X:Ctx U El:=⟨E,tds,zeros,eqs,specOf [],100000,9,dspecOf [],fun _=>none,fun _=>none⟩
noncomputable def nmR:Norm U:=⟨[],[3],[],[],[],[],[]⟩
noncomputable def RR:Kont U El:=fun st=>normK nmR st (retFin [3] [])
noncomputable def fr0 (x:Node) (s:List UInt8) (b:Bool) (v:Int):St U El:=⟨[(0,(.agg [(.str x.nn),(.int .i64 x.nk),(.int .i64 x.nx),(.int .i64 x.ny),(.int .i64 x.ni),(.int .i64 x.ng),(.lst .knot x.nh),(.bool x.np),(.int .i64 x.nr)])),(1,(.pcs [(.str s),(.bool b),(.int .i64 v)] 0))],[]⟩
noncomputable def sh0 (x:Node) (s:List UInt8) (b:Bool) (v:Int):R :=
 some ((.bool (x.nn == s)),[])
theorem P0 (x s b v):exec X (cdp [] bd) .d (fr0 x s b v) RR (fun _ _=>none) RR=sh0 x s b v:=by kernel_rfl
noncomputable def f0 (x:Node) (s:List UInt8) (b:Bool) (v:Int):R:=sh0 x s b v
theorem T0 (x s b v):exec X bd .d (fr0 x s b v) RR (fun _ _=>none) RR=f0 x s b v:=by
 refine (P0 x s b v).trans ?_
 show _=sh0 x s b v
 rfl
theorem run (x s b v):runFn X bd .d nmR [3] [] [(.agg [(.str x.nn),(.int .i64 x.nk),(.int .i64 x.nx),(.int .i64 x.ny),(.int .i64 x.ni),(.int .i64 x.ng),(.lst .knot x.nh),(.bool x.np),(.int .i64 x.nr)]),(.pcs [(.str s),(.bool b),(.int .i64 v)] 0)]=f0 x s b v:=T0 x s b v
theorem f0_eq (x:Node) (s:List UInt8) (b:Bool) (v:Int):f0 x s b v=outB (isNode s x):=rfl
theorem ok:CtxOk Tryz.prog X:=ctxOk tab spN dpN
theorem okM:MOk Tryz.prog X:=fun g sp h=>by cases h
theorem spec (x:Node) (s:List UInt8) (b:Bool) (v:Int):CallSpec Tryz.prog E 121 [(.agg [(.str x.nn),(.int .i64 x.nk),(.int .i64 x.nx),(.int .i64 x.ny),(.int .i64 x.ni),(.int .i64 x.ng),(.lst .knot x.nh),(.bool x.np),(.int .i64 x.nr)]),(.pcs [(.str s),(.bool b),(.int .i64 v)] 0)] (.bool ((isNode s) x)) [] :=
 rfs ok okM Tryz.call121 Tryz.func121 ((run x s b v).trans (f0_eq x s b v))
noncomputable def sp:Sp U El:=fun args k=>match args with
 | [.agg [.str x_nn,.int .i64 x_nk,.int .i64 x_nx,.int .i64 x_ny,.int .i64 x_ni,.int .i64 x_ng,.lst .knot x_nh,.bool x_np,.int .i64 x_nr],.pcs [.str s,.bool b,.int .i64 v] 0]=>k (.bool ((isNode s) (⟨x_nn,x_nk,x_nx,x_ny,x_ni,x_ng,x_nh,x_np,x_nr⟩:Node))) []
 | _=>none
theorem spOk:SpOk Tryz.prog E 121 sp:=⟨fun vs=>by unfold sp;split;exact ⟨some (_,_),fun _=>rfl⟩;exact ⟨none,fun _=>rfl⟩,fun vs k r h=>by unfold sp at h;split at h;exact ⟨_,_,spec ⟨_,_,_,_,_,_,_,_,_⟩ _ _ _,h⟩;cases h⟩
end ho11
namespace ho11X
noncomputable def bd:Code:=(Tryz.f109.body).getD .skip
noncomputable def X:Ctx U El:=⟨E,tds,zeros,eqs,specOf [(121,ho11.sp)],100000,19,dspecOf [],fun _=>none,fun _=>none⟩
noncomputable def nmR:Norm U:=⟨[],[4],[],[],[],[],[]⟩
noncomputable def RR:Kont U El:=fun st=>normK nmR st (retFin [4] [])
noncomputable def nm1:Norm U:=⟨[],[],[],[],[],[],[]⟩
noncomputable def nm2:Norm U:=⟨[],[0,1,7,8],[],[],[],[],[]⟩
abbrev Y1:=R
abbrev Y2:=(List Node)→(List UInt8)→Bool→Int→Int→Int→R
noncomputable def fr0 (l:List Node) (s:List UInt8) (b:Bool) (v:Int):St U El:=⟨[(0,(.lst .node l)),(1,(.fn 121 [] [(.pcs [(.str s),(.bool b),(.int .i64 v)] 0)]))],[]⟩
noncomputable def fr1:St U El:=⟨[],[]⟩
noncomputable def fr2 (s0:List Node) (f1c_0:List UInt8) (f1c_1:Bool) (f1c_2:Int) (x7:Int) (x8:Int):St U El:=⟨[(0,(.lst .node s0)),(1,(.fn 121 [] [(.pcs [(.str f1c_0),(.bool f1c_1),(.int .i64 f1c_2)] 0)])),(7,(.int .i64 x7)),(8,(.int .i64 x8))],[]⟩
noncomputable def sh0 (l:List Node) (s:List UInt8) (b:Bool) (v:Int) (k2:Y2):R :=
 k2 l s b v (Int.ofNat (List.length l)) (0:Int)
noncomputable def sh1:R :=
 some ((.int .i64 (-1:Int)),[])
noncomputable def sh2 (s0:List Node) (f1c_0:List UInt8) (f1c_1:Bool) (f1c_2:Int) (x7:Int) (x8:Int) (k1:Y1) (k2:Y2):R :=
 condB (ilt x8 x7) (chk (inb x8 (List.length s0)) (condB ((isNode f1c_0) (List.getD s0 (Int.toNat x8) d_node)) (some ((.int .i64 x8),[])) (k2 s0 f1c_0 f1c_1 f1c_2 x7 (IntKind.wrap .i64 (x8+(1:Int)))))) (k1)
noncomputable def it2 (Kb1:Kont U El) (n:Nat):Kont U El:=iter nm2 (fun st' K'=>exec X (cdp [1,0,1,0,0] bd) .d st' K' (Eblk 0 (cutK nm1 Kb1) (fun _ _=>none)) RR) n
noncomputable def ct1:Kont U El:=fun st=>exec X (cdp [1,1] bd) .d st RR (fun _ _=>none) RR
theorem P0 (l s b v):exec X (cdp [] bd) (.seq none .d (.seq (some nm1) (.seq none .d (.block (.loop nm2 .d))) .d)) (fr0 l s b v) RR (fun _ _=>none) RR=sh0 l s b v (fun y0 y1 y2 y3 y4 y5=>(hid (it2 (hid ct1) 100000)) (fr2 y0 y1 y2 y3 y4 y5)):=by kernel_rfl
theorem P1:ct1 (fr1)=sh1:=by kernel_rfl
theorem P2 (s0 f1c_0 f1c_1 f1c_2 x7 x8) (Kb1 Kb2:Kont U El):exec X (cdp [1,0,1,0,0] bd) .d (fr2 s0 f1c_0 f1c_1 f1c_2 x7 x8) (cutK nm2 Kb2) (Eblk 0 (cutK nm1 Kb1) (fun _ _=>none)) RR=sh2 s0 f1c_0 f1c_1 f1c_2 x7 x8 (Kb1 (fr1)) (fun y0 y1 y2 y3 y4 y5=>Kb2 (fr2 y0 y1 y2 y3 y4 y5)):=by kernel_rfl
noncomputable def f1:R:=sh1
noncomputable def f2:Nat→Y2
 | 0=>fun _ _ _ _ _ _=>none
 | n+1=>fun s0 f1c_0 f1c_1 f1c_2 x7 x8=>sh2 s0 f1c_0 f1c_1 f1c_2 x7 x8 f1 (f2 n)
noncomputable def f0 (l:List Node) (s:List UInt8) (b:Bool) (v:Int):R:=sh0 l s b v (f2 100000)
theorem T1:(hid ct1) (fr1)=f1:=by
 refine (congrFun (hid_eq _) _).trans <| (P1).trans ?_
 show _=sh1
 rfl
theorem T2:∀ (n:Nat),∀ s0 f1c_0 f1c_1 f1c_2 x7 x8,it2 (hid ct1) n (fr2 s0 f1c_0 f1c_1 f1c_2 x7 x8)=f2 n s0 f1c_0 f1c_1 f1c_2 x7 x8:=by
  intro n
  induction n with
  | zero=>intros; rfl
  | succ n ih =>
    intro s0 f1c_0 f1c_1 f1c_2 x7 x8
    refine (P2 s0 f1c_0 f1c_1 f1c_2 x7 x8 (hid ct1) (it2 (hid ct1) n)).trans ?_
    show _=sh2 s0 f1c_0 f1c_1 f1c_2 x7 x8 f1 (f2 n)
    simp only [T1,ih]
theorem H2 (s0 f1c_0 f1c_1 f1c_2 x7 x8):hid (it2 (hid ct1) 100000) (fr2 s0 f1c_0 f1c_1 f1c_2 x7 x8)=f2 100000 s0 f1c_0 f1c_1 f1c_2 x7 x8:=(congrFun (hid_eq _) _).trans (T2 100000 s0 f1c_0 f1c_1 f1c_2 x7 x8)
theorem T0 (l s b v):exec X bd (.seq none .d (.seq (some nm1) (.seq none .d (.block (.loop nm2 .d))) .d)) (fr0 l s b v) RR (fun _ _=>none) RR=f0 l s b v:=by
 refine (P0 l s b v).trans ?_
 show _=sh0 l s b v (f2 100000)
 simp only [H2]
theorem run (l s b v):runFn X bd (.seq none .d (.seq (some nm1) (.seq none .d (.block (.loop nm2 .d))) .d)) nmR [4] [] [(.lst .node l),(.fn 121 [] [(.pcs [(.str s),(.bool b),(.int .i64 v)] 0)])]=f0 l s b v:=T0 l s b v
theorem f0_eq (l:List Node) (s:List UInt8) (b:Bool) (v:Int) (h:(nle (List.length l) 90000)=true):f0 l s b v=outI (findZ (isNode s) 0 l):=by
 have hl:=nleI h
 refine (grun_eq l (by omega) (fun n_ (_:Unit) i_=>f2 n_ l s b v (Int.ofNat l.length) i_) _ (fun _=>outI (-1)) (fun n_ u_ i_ hi_=>?_) (fun n_ u_=>?_) 100000 0 () (by omega) (by omega)).trans (grun_find (isNode s) outI l 0)
 ·show sh2 l s b v (Int.ofNat l.length) i_ f1 (f2 n_)=_
  unfold sh2
  rw [iltT (by simp; omega),inbT hi_,toNat_nat,getD_lt hi_]
  rfl
 ·show sh2 l s b v (Int.ofNat l.length) (l.length:Int) f1 (f2 n_)=_
  unfold sh2
  rw [iltF (by simp)]
  rfl
theorem ok:CtxOk Tryz.prog X:=ctxOk tab (spC ho11.spOk spN) dpN
theorem okM:MOk Tryz.prog X:=fun g sp h=>by cases h
theorem spec (l:List Node) (s:List UInt8) (b:Bool) (v:Int) (h:(nle (List.length l) 90000)=true):CallSpec Tryz.prog E 109 [(.lst .node l),(.fn 121 [] [(.pcs [(.str s),(.bool b),(.int .i64 v)] 0)])] (.int .i64 (findZ (isNode s) 0 l)) [] :=
 rfs ok okM Tryz.call109 Tryz.func109 ((run l s b v).trans (f0_eq l s b v h))
noncomputable def sp:Sp U El:=fun args k=>match args with
 | [.lst .node l,.fn 121 [] [.pcs [.str s,.bool b,.int .i64 v] 0]]=>chk (nle (List.length l) 90000) (k (.int .i64 (findZ (isNode s) 0 l)) [])
 | _=>none
theorem spOk:SpOk Tryz.prog E 109 sp:=⟨fun vs=>by unfold sp;split;exact det_c _ _ _;exact ⟨none,fun _=>rfl⟩,fun vs k r h=>by unfold sp at h;split at h;(obtain ⟨h1,h2⟩:=chk_some h;exact ⟨_,_,spec _ _ _ _ h1,h2⟩);cases h⟩
end ho11X
namespace rl1
noncomputable def bd:Code:=(Tryz.f156.body).getD .skip
noncomputable def X:Ctx U El:=⟨E,tds,zeros,eqs,specOf [(148,between.sp)],100000,13,dspecOf [],fun _=>none,fun _=>none⟩
noncomputable def nmR:Norm U:=⟨[],[2],[],[],[],[],[]⟩
noncomputable def RR:Kont U El:=fun st=>normK nmR st (retFin [2] [])
noncomputable def fr0 (x:Knot):St U El:=⟨[(0,(.agg [(.int .i64 x.kx),(.int .i64 x.ky)]))],[]⟩
noncomputable def sh0 (x:Knot):R :=
 condB (!((ile (0:Int) x.kx&&ile x.kx (4194304:Int)))) (some ((.bool true),[])) (some ((.bool (!((ile (0:Int) x.ky&&ile x.ky (1099511627776:Int))))),[]))
theorem P0 (x):exec X (cdp [] bd) .d (fr0 x) RR (fun _ _=>none) RR=sh0 x:=by kernel_rfl
noncomputable def f0 (x:Knot):R:=sh0 x
theorem T0 (x):exec X bd .d (fr0 x) RR (fun _ _=>none) RR=f0 x:=by
 refine (P0 x).trans ?_
 show _=sh0 x
 rfl
theorem run (x):runFn X bd .d nmR [2] [] [(.agg [(.int .i64 x.kx),(.int .i64 x.ky)])]=f0 x:=T0 x
theorem f0_eq (x:Knot):f0 x=outB (badKnot x):=cOr outB _ _
theorem ok:CtxOk Tryz.prog X:=ctxOk tab (spC between.spOk spN) dpN
theorem okM:MOk Tryz.prog X:=fun g sp h=>by cases h
theorem spec (x:Knot):CallSpec Tryz.prog E 156 [(.agg [(.int .i64 x.kx),(.int .i64 x.ky)])] (.bool (badKnot x)) [] :=
 rfs ok okM Tryz.call156 Tryz.func156 ((run x).trans (f0_eq x))
noncomputable def sp:Sp U El:=fun args k=>match args with
 | [.agg [.int .i64 x_kx,.int .i64 x_ky]]=>k (.bool (badKnot (⟨x_kx,x_ky⟩:Knot))) []
 | _=>none
theorem spOk:SpOk Tryz.prog E 156 sp:=⟨fun vs=>by unfold sp;split;exact ⟨some (_,_),fun _=>rfl⟩;exact ⟨none,fun _=>rfl⟩,fun vs k r h=>by unfold sp at h;split at h;exact ⟨_,_,spec ⟨_,_⟩,h⟩;cases h⟩
end rl1
namespace rl1X
noncomputable def bd:Code:=(Tryz.f176.body).getD .skip
noncomputable def X:Ctx U El:=⟨E,tds,zeros,eqs,specOf [(156,rl1.sp)],100000,19,dspecOf [],fun _=>none,fun _=>none⟩
noncomputable def nmR:Norm U:=⟨[],[4],[],[],[],[],[]⟩
noncomputable def RR:Kont U El:=fun st=>normK nmR st (retFin [4] [])
noncomputable def nm1:Norm U:=⟨[],[],[],[],[],[],[]⟩
noncomputable def nm2:Norm U:=⟨[],[0,1,7,8],[],[],[],[],[]⟩
abbrev Y1:=R
abbrev Y2:=(List Knot)→Int→Int→R
noncomputable def fr0 (l:List Knot):St U El:=⟨[(0,(.lst .knot l)),(1,(.fn 156 [] []))],[]⟩
noncomputable def fr1:St U El:=⟨[],[]⟩
noncomputable def fr2 (s0:List Knot) (x7:Int) (x8:Int):St U El:=⟨[(0,(.lst .knot s0)),(1,(.fn 156 [] [])),(7,(.int .i64 x7)),(8,(.int .i64 x8))],[]⟩
noncomputable def sh0 (l:List Knot) (k2:Y2):R :=
 k2 l (Int.ofNat (List.length l)) (0:Int)
noncomputable def sh1:R :=
 some ((.int .i64 (-1:Int)),[])
noncomputable def sh2 (s0:List Knot) (x7:Int) (x8:Int) (k1:Y1) (k2:Y2):R :=
 condB (ilt x8 x7) (chk (inb x8 (List.length s0)) (condB (badKnot (List.getD s0 (Int.toNat x8) d_knot)) (some ((.int .i64 x8),[])) (k2 s0 x7 (IntKind.wrap .i64 (x8+(1:Int)))))) (k1)
noncomputable def it2 (Kb1:Kont U El) (n:Nat):Kont U El:=iter nm2 (fun st' K'=>exec X (cdp [1,0,1,0,0] bd) .d st' K' (Eblk 0 (cutK nm1 Kb1) (fun _ _=>none)) RR) n
noncomputable def ct1:Kont U El:=fun st=>exec X (cdp [1,1] bd) .d st RR (fun _ _=>none) RR
theorem P0 (l):exec X (cdp [] bd) (.seq none .d (.seq (some nm1) (.seq none .d (.block (.loop nm2 .d))) .d)) (fr0 l) RR (fun _ _=>none) RR=sh0 l (fun y0 y1 y2=>(hid (it2 (hid ct1) 100000)) (fr2 y0 y1 y2)):=by kernel_rfl
theorem P1:ct1 (fr1)=sh1:=by kernel_rfl
theorem P2 (s0 x7 x8) (Kb1 Kb2:Kont U El):exec X (cdp [1,0,1,0,0] bd) .d (fr2 s0 x7 x8) (cutK nm2 Kb2) (Eblk 0 (cutK nm1 Kb1) (fun _ _=>none)) RR=sh2 s0 x7 x8 (Kb1 (fr1)) (fun y0 y1 y2=>Kb2 (fr2 y0 y1 y2)):=by kernel_rfl
noncomputable def f1:R:=sh1
noncomputable def f2:Nat→Y2
 | 0=>fun _ _ _=>none
 | n+1=>fun s0 x7 x8=>sh2 s0 x7 x8 f1 (f2 n)
noncomputable def f0 (l:List Knot):R:=sh0 l (f2 100000)
theorem T1:(hid ct1) (fr1)=f1:=by
 refine (congrFun (hid_eq _) _).trans <| (P1).trans ?_
 show _=sh1
 rfl
theorem T2:∀ (n:Nat),∀ s0 x7 x8,it2 (hid ct1) n (fr2 s0 x7 x8)=f2 n s0 x7 x8:=by
  intro n
  induction n with
  | zero=>intros; rfl
  | succ n ih =>
    intro s0 x7 x8
    refine (P2 s0 x7 x8 (hid ct1) (it2 (hid ct1) n)).trans ?_
    show _=sh2 s0 x7 x8 f1 (f2 n)
    simp only [T1,ih]
theorem H2 (s0 x7 x8):hid (it2 (hid ct1) 100000) (fr2 s0 x7 x8)=f2 100000 s0 x7 x8:=(congrFun (hid_eq _) _).trans (T2 100000 s0 x7 x8)
theorem T0 (l):exec X bd (.seq none .d (.seq (some nm1) (.seq none .d (.block (.loop nm2 .d))) .d)) (fr0 l) RR (fun _ _=>none) RR=f0 l:=by
 refine (P0 l).trans ?_
 show _=sh0 l (f2 100000)
 simp only [H2]
theorem run (l):runFn X bd (.seq none .d (.seq (some nm1) (.seq none .d (.block (.loop nm2 .d))) .d)) nmR [4] [] [(.lst .knot l),(.fn 156 [] [])]=f0 l:=T0 l
theorem f0_eq (l:List Knot) (h:(nle (List.length l) 90000)=true):f0 l=outI (findZ badKnot 0 l):=by
 have hl:=nleI h
 refine (grun_eq l (by omega) (fun n_ (_:Unit) i_=>f2 n_ l (Int.ofNat l.length) i_) _ (fun _=>outI (-1)) (fun n_ u_ i_ hi_=>?_) (fun n_ u_=>?_) 100000 0 () (by omega) (by omega)).trans (grun_find badKnot outI l 0)
 ·show sh2 l (Int.ofNat l.length) i_ f1 (f2 n_)=_
  unfold sh2
  rw [iltT (by simp; omega),inbT hi_,toNat_nat,getD_lt hi_]
  rfl
 ·show sh2 l (Int.ofNat l.length) (l.length:Int) f1 (f2 n_)=_
  unfold sh2
  rw [iltF (by simp)]
  rfl
theorem ok:CtxOk Tryz.prog X:=ctxOk tab (spC rl1.spOk spN) dpN
theorem okM:MOk Tryz.prog X:=fun g sp h=>by cases h
theorem spec (l:List Knot) (h:(nle (List.length l) 90000)=true):CallSpec Tryz.prog E 176 [(.lst .knot l),(.fn 156 [] [])] (.int .i64 (findZ badKnot 0 l)) [] :=
 rfs ok okM Tryz.call176 Tryz.func176 ((run l).trans (f0_eq l h))
noncomputable def sp:Sp U El:=fun args k=>match args with
 | [.lst .knot l,.fn 156 [] []]=>chk (nle (List.length l) 90000) (k (.int .i64 (findZ badKnot 0 l)) [])
 | _=>none
theorem spOk:SpOk Tryz.prog E 176 sp:=⟨fun vs=>by unfold sp;split;exact det_c _ _ _;exact ⟨none,fun _=>rfl⟩,fun vs k r h=>by unfold sp at h;split at h;(obtain ⟨h1,h2⟩:=chk_some h;exact ⟨_,_,spec _ h1,h2⟩);cases h⟩
end rl1X
namespace rl1C
noncomputable def bd:Code:=(Tryz.f155.body).getD .skip
noncomputable def X:Ctx U El:=⟨E,tds,zeros,eqs,specOf [(176,rl1X.sp)],100000,9,dspecOf [],fun _=>none,fun _=>none⟩
noncomputable def nmR:Norm U:=⟨[],[4],[],[],[],[],[]⟩
noncomputable def RR:Kont U El:=fun st=>normK nmR st (retFin [4] [])
noncomputable def fr0 (l:List Knot):St U El:=⟨[(0,(.lst .knot l)),(1,(.fn 156 [] []))],[]⟩
noncomputable def sh0 (l:List Knot):R :=
 chk (nle (List.length l) 90000) (some ((.bool (ile (0:Int) (findZ badKnot 0 l))),[]))
theorem P0 (l):exec X (cdp [] bd) .d (fr0 l) RR (fun _ _=>none) RR=sh0 l:=by kernel_rfl
noncomputable def f0 (l:List Knot):R:=sh0 l
theorem T0 (l):exec X bd .d (fr0 l) RR (fun _ _=>none) RR=f0 l:=by
 refine (P0 l).trans ?_
 show _=sh0 l
 rfl
theorem run (l):runFn X bd .d nmR [4] [] [(.lst .knot l),(.fn 156 [] [])]=f0 l:=T0 l
theorem f0_eq (l:List Knot) (h:(nle (List.length l) 90000)=true):f0 l=outB (List.any l badKnot):=by
 show chk _ (outB _)=_
 rw [h,chkT,findZ_any]
theorem ok:CtxOk Tryz.prog X:=ctxOk tab (spC rl1X.spOk spN) dpN
theorem okM:MOk Tryz.prog X:=fun g sp h=>by cases h
theorem spec (l:List Knot) (h:(nle (List.length l) 90000)=true):CallSpec Tryz.prog E 155 [(.lst .knot l),(.fn 156 [] [])] (.bool (List.any l badKnot)) [] :=
 rfs ok okM Tryz.call155 Tryz.func155 ((run l).trans (f0_eq l h))
noncomputable def sp:Sp U El:=fun args k=>match args with
 | [.lst .knot l,.fn 156 [] []]=>chk (nle (List.length l) 90000) (k (.bool (List.any l badKnot)) [])
 | _=>none
theorem spOk:SpOk Tryz.prog E 155 sp:=⟨fun vs=>by unfold sp;split;exact det_c _ _ _;exact ⟨none,fun _=>rfl⟩,fun vs k r h=>by unfold sp at h;split at h;(obtain ⟨h1,h2⟩:=chk_some h;exact ⟨_,_,spec _ h1,h2⟩);cases h⟩
end rl1C
namespace nnode
noncomputable def bd:Code:=(Tryz.f137.body).getD .skip
noncomputable def X:Ctx U El:=⟨E,tds,zeros,eqs,specOf [(109,nd1X.sp)],100000,9,dspecOf [],fun _=>none,fun _=>none⟩
noncomputable def nmR:Norm U:=⟨[],[4],[],[],[],[],[]⟩
noncomputable def RR:Kont U El:=fun st=>normK nmR st (retFin [4] [])
noncomputable def fr0 (n:Net) (s:List UInt8):St U El:=⟨[(0,(.agg [(.lst .node n.nds),(.lst .link n.lks)])),(1,(.str s))],[]⟩
noncomputable def sh0 (n:Net) (s:List UInt8):R :=
 chk (nle (List.length n.nds) 90000) (some ((.int .i64 (findZ (isNode s) 0 n.nds)),[]))
theorem P0 (n s):exec X (cdp [] bd) .d (fr0 n s) RR (fun _ _=>none) RR=sh0 n s:=by kernel_rfl
noncomputable def f0 (n:Net) (s:List UInt8):R:=sh0 n s
theorem T0 (n s):exec X bd .d (fr0 n s) RR (fun _ _=>none) RR=f0 n s:=by
 refine (P0 n s).trans ?_
 show _=sh0 n s
 rfl
theorem run (n s):runFn X bd .d nmR [4] [] [(.agg [(.lst .node n.nds),(.lst .link n.lks)]),(.str s)]=f0 n s:=T0 n s
theorem f0_eq (n:Net) (s:List UInt8) (h:okN n=true):f0 n s=outI (nodeZ n s):=by
 show chk _ _=_
 rw [okN_nds h]; rfl
theorem ok:CtxOk Tryz.prog X:=ctxOk tab (spC nd1X.spOk spN) dpN
theorem okM:MOk Tryz.prog X:=fun g sp h=>by cases h
theorem spec (n:Net) (s:List UInt8) (h:(okN n)=true):CallSpec Tryz.prog E 137 [(.agg [(.lst .node n.nds),(.lst .link n.lks)]),(.str s)] (.int .i64 (nodeZ n s)) [] :=
 rfs ok okM Tryz.call137 Tryz.func137 ((run n s).trans (f0_eq n s h))
noncomputable def sp:Sp U El:=fun args k=>match args with
 | [.agg [.lst .node n_nds,.lst .link n_lks],.str s]=>chk (okN (⟨n_nds,n_lks⟩:Net)) (k (.int .i64 (nodeZ (⟨n_nds,n_lks⟩:Net) s)) [])
 | _=>none
theorem spOk:SpOk Tryz.prog E 137 sp:=⟨fun vs=>by unfold sp;split;exact det_c _ _ _;exact ⟨none,fun _=>rfl⟩,fun vs k r h=>by unfold sp at h;split at h;(obtain ⟨h1,h2⟩:=chk_some h;exact ⟨_,_,spec ⟨_,_⟩ _ h1,h2⟩);cases h⟩
end nnode
namespace nlink
noncomputable def bd:Code:=(Tryz.f118.body).getD .skip
noncomputable def X:Ctx U El:=⟨E,tds,zeros,eqs,specOf [(110,lk1X.sp)],100000,9,dspecOf [],fun _=>none,fun _=>none⟩
noncomputable def nmR:Norm U:=⟨[],[4],[],[],[],[],[]⟩
noncomputable def RR:Kont U El:=fun st=>normK nmR st (retFin [4] [])
noncomputable def fr0 (n:Net) (s:List UInt8):St U El:=⟨[(0,(.agg [(.lst .node n.nds),(.lst .link n.lks)])),(1,(.str s))],[]⟩
noncomputable def sh0 (n:Net) (s:List UInt8):R :=
 chk (nle (List.length n.lks) 90000) (some ((.int .i64 (findZ (isLink s) 0 n.lks)),[]))
theorem P0 (n s):exec X (cdp [] bd) .d (fr0 n s) RR (fun _ _=>none) RR=sh0 n s:=by kernel_rfl
noncomputable def f0 (n:Net) (s:List UInt8):R:=sh0 n s
theorem T0 (n s):exec X bd .d (fr0 n s) RR (fun _ _=>none) RR=f0 n s:=by
 refine (P0 n s).trans ?_
 show _=sh0 n s
 rfl
theorem run (n s):runFn X bd .d nmR [4] [] [(.agg [(.lst .node n.nds),(.lst .link n.lks)]),(.str s)]=f0 n s:=T0 n s
theorem f0_eq (n:Net) (s:List UInt8) (h:okN n=true):f0 n s=outI (linkZ n s):=by
 show chk _ _=_
 rw [okN_lks h]; rfl
theorem ok:CtxOk Tryz.prog X:=ctxOk tab (spC lk1X.spOk spN) dpN
theorem okM:MOk Tryz.prog X:=fun g sp h=>by cases h
theorem spec (n:Net) (s:List UInt8) (h:(okN n)=true):CallSpec Tryz.prog E 118 [(.agg [(.lst .node n.nds),(.lst .link n.lks)]),(.str s)] (.int .i64 (linkZ n s)) [] :=
 rfs ok okM Tryz.call118 Tryz.func118 ((run n s).trans (f0_eq n s h))
noncomputable def sp:Sp U El:=fun args k=>match args with
 | [.agg [.lst .node n_nds,.lst .link n_lks],.str s]=>chk (okN (⟨n_nds,n_lks⟩:Net)) (k (.int .i64 (linkZ (⟨n_nds,n_lks⟩:Net) s)) [])
 | _=>none
theorem spOk:SpOk Tryz.prog E 118 sp:=⟨fun vs=>by unfold sp;split;exact det_c _ _ _;exact ⟨none,fun _=>rfl⟩,fun vs k r h=>by unfold sp at h;split at h;(obtain ⟨h1,h2⟩:=chk_some h;exact ⟨_,_,spec ⟨_,_⟩ _ h1,h2⟩);cases h⟩
end nlink
namespace rfindNode
noncomputable def bd:Code:=(Tryz.f83.body).getD .skip
noncomputable def X:Ctx U El:=⟨E,tds,zeros,eqs,specOf [],100000,22,dspecOf [],fun _=>none,fun _=>none⟩
noncomputable def nmR:Norm U:=⟨[],[4],[],[],[],[],[]⟩
noncomputable def RR:Kont U El:=fun st=>normK nmR st (retFin [4] [])
noncomputable def nm1:Norm U:=⟨[],[],[],[],[],[],[]⟩
noncomputable def nm2:Norm U:=⟨[],[1,2,5],[2],[],[],[],[(2,0,.node),(2,1,.link)]⟩
abbrev Y1:=R
abbrev Y2:=(List UInt8)→Int→(List Node)→(List Lnk)→R
noncomputable def fr0 (n:Net) (s:List UInt8):St U El:=⟨[(0,(.agg [(.lst .node n.nds),(.lst .link n.lks)])),(1,(.str s))],[]⟩
noncomputable def fr1:St U El:=⟨[],[]⟩
noncomputable def fr2 (aA:List UInt8) (i5:Int) (bA:List Node) (cA:List Lnk):St U El:=⟨[(1,(.str aA)),(2,(.ptr 2 0)),(5,(.int .i64 i5))],[(2,(.box 0 [(.lst .node bA),(.lst .link cA)]))]⟩
noncomputable def sh0 (n:Net) (s:List UInt8) (k2:Y2):R :=
 k2 s (0:Int) n.nds n.lks
noncomputable def sh1:R :=
 some ((.int .i64 (-1:Int)),[])
noncomputable def sh2 (aA:List UInt8) (i5:Int) (bA:List Node) (cA:List Lnk) (k1:Y1) (k2:Y2):R :=
 condB (ilt i5 (Int.ofNat (List.length bA))) (chk (inb i5 (List.length bA)) (condB (((List.getD bA (Int.toNat i5) d_node).nn) == aA) (some ((.int .i64 i5),[])) (k2 aA (IntKind.wrap .i64 (i5+(1:Int))) bA cA))) (k1)
noncomputable def it2 (Kb1:Kont U El) (n:Nat):Kont U El:=iter nm2 (fun st' K'=>exec X (cdp [1,0,1,0,0] bd) .d st' K' (Eblk 0 (cutK nm1 Kb1) (fun _ _=>none)) RR) n
noncomputable def ct1:Kont U El:=fun st=>exec X (cdp [1,1] bd) .d st RR (fun _ _=>none) RR
theorem P0 (n s):exec X (cdp [] bd) (.seq none .d (.seq (some nm1) (.seq none .d (.block (.loop nm2 .d))) .d)) (fr0 n s) RR (fun _ _=>none) RR=sh0 n s (fun y0 y1 y2 y3=>(hid (it2 (hid ct1) 100000)) (fr2 y0 y1 y2 y3)):=by kernel_rfl
theorem P1:ct1 (fr1)=sh1:=by kernel_rfl
theorem P2 (aA i5 bA cA) (Kb1 Kb2:Kont U El):exec X (cdp [1,0,1,0,0] bd) .d (fr2 aA i5 bA cA) (cutK nm2 Kb2) (Eblk 0 (cutK nm1 Kb1) (fun _ _=>none)) RR=sh2 aA i5 bA cA (Kb1 (fr1)) (fun y0 y1 y2 y3=>Kb2 (fr2 y0 y1 y2 y3)):=by kernel_rfl
noncomputable def f1:R:=sh1
noncomputable def f2:Nat→Y2
 | 0=>fun _ _ _ _=>none
 | n+1=>fun aA i5 bA cA=>sh2 aA i5 bA cA f1 (f2 n)
noncomputable def f0 (n:Net) (s:List UInt8):R:=sh0 n s (f2 100000)
theorem T1:(hid ct1) (fr1)=f1:=by
 refine (congrFun (hid_eq _) _).trans <| (P1).trans ?_
 show _=sh1
 rfl
theorem T2:∀ (n:Nat),∀ aA i5 bA cA,it2 (hid ct1) n (fr2 aA i5 bA cA)=f2 n aA i5 bA cA:=by
  intro n
  induction n with
  | zero=>intros; rfl
  | succ n ih =>
    intro aA i5 bA cA
    refine (P2 aA i5 bA cA (hid ct1) (it2 (hid ct1) n)).trans ?_
    show _=sh2 aA i5 bA cA f1 (f2 n)
    simp only [T1,ih]
theorem H2 (aA i5 bA cA):hid (it2 (hid ct1) 100000) (fr2 aA i5 bA cA)=f2 100000 aA i5 bA cA:=(congrFun (hid_eq _) _).trans (T2 100000 aA i5 bA cA)
theorem T0 (n s):exec X bd (.seq none .d (.seq (some nm1) (.seq none .d (.block (.loop nm2 .d))) .d)) (fr0 n s) RR (fun _ _=>none) RR=f0 n s:=by
 refine (P0 n s).trans ?_
 show _=sh0 n s (f2 100000)
 simp only [H2]
theorem run (n s):runFn X bd (.seq none .d (.seq (some nm1) (.seq none .d (.block (.loop nm2 .d))) .d)) nmR [4] [] [(.agg [(.lst .node n.nds),(.lst .link n.lks)]),(.str s)]=f0 n s:=T0 n s
theorem f0_eq (n:Net) (s:List UInt8) (h:okN n=true):f0 n s=outI (nodeZ n s):=by
 have hl:=nleI (okN_nds h)
 refine (grun_eq n.nds (by omega) (fun m (_:Unit) i=>f2 m s i n.nds n.lks) _ (fun _=>outI (-1)) (fun m u i hi=>?_) (fun m u=>?_) 100000 0 () (by omega) (by omega)).trans (grun_find (isNode s) outI n.nds 0)
 ·show sh2 s i n.nds n.lks f1 (f2 m)=_
  unfold sh2
  rw [iltT (by simp; omega),inbT hi,toNat_nat,getD_lt hi]
  rfl
 ·show sh2 s (n.nds.length:Int) n.nds n.lks f1 (f2 m)=_
  unfold sh2
  rw [iltF (by simp)]
  rfl
theorem ok:CtxOk Tryz.prog X:=ctxOk tab spN dpN
theorem okM:MOk Tryz.prog X:=fun g sp h=>by cases h
theorem spec (n:Net) (s:List UInt8) (h:(okN n)=true):CallSpec Tryz.prog E 83 [(.agg [(.lst .node n.nds),(.lst .link n.lks)]),(.str s)] (.int .i64 (nodeZ n s)) [] :=
 rfs ok okM Tryz.call83 Tryz.func83 ((run n s).trans (f0_eq n s h))
noncomputable def sp:Sp U El:=fun args k=>match args with
 | [.agg [.lst .node n_nds,.lst .link n_lks],.str s]=>chk (okN (⟨n_nds,n_lks⟩:Net)) (k (.int .i64 (nodeZ (⟨n_nds,n_lks⟩:Net) s)) [])
 | _=>none
theorem spOk:SpOk Tryz.prog E 83 sp:=⟨fun vs=>by unfold sp;split;exact det_c _ _ _;exact ⟨none,fun _=>rfl⟩,fun vs k r h=>by unfold sp at h;split at h;(obtain ⟨h1,h2⟩:=chk_some h;exact ⟨_,_,spec ⟨_,_⟩ _ h1,h2⟩);cases h⟩
end rfindNode
namespace rfindLink
noncomputable def bd:Code:=(Tryz.f76.body).getD .skip
noncomputable def X:Ctx U El:=⟨E,tds,zeros,eqs,specOf [],100000,22,dspecOf [],fun _=>none,fun _=>none⟩
noncomputable def nmR:Norm U:=⟨[],[4],[],[],[],[],[]⟩
noncomputable def RR:Kont U El:=fun st=>normK nmR st (retFin [4] [])
noncomputable def nm1:Norm U:=⟨[],[],[],[],[],[],[]⟩
noncomputable def nm2:Norm U:=⟨[],[1,2,5],[2],[],[],[],[(2,0,.node),(2,1,.link)]⟩
abbrev Y1:=R
abbrev Y2:=(List UInt8)→Int→(List Node)→(List Lnk)→R
noncomputable def fr0 (n:Net) (s:List UInt8):St U El:=⟨[(0,(.agg [(.lst .node n.nds),(.lst .link n.lks)])),(1,(.str s))],[]⟩
noncomputable def fr1:St U El:=⟨[],[]⟩
noncomputable def fr2 (aA:List UInt8) (i5:Int) (bA:List Node) (cA:List Lnk):St U El:=⟨[(1,(.str aA)),(2,(.ptr 2 0)),(5,(.int .i64 i5))],[(2,(.box 0 [(.lst .node bA),(.lst .link cA)]))]⟩
noncomputable def sh0 (n:Net) (s:List UInt8) (k2:Y2):R :=
 k2 s (0:Int) n.nds n.lks
noncomputable def sh1:R :=
 some ((.int .i64 (-1:Int)),[])
noncomputable def sh2 (aA:List UInt8) (i5:Int) (bA:List Node) (cA:List Lnk) (k1:Y1) (k2:Y2):R :=
 condB (ilt i5 (Int.ofNat (List.length cA))) (chk (inb i5 (List.length cA)) (condB (((List.getD cA (Int.toNat i5) d_link).ln) == aA) (some ((.int .i64 i5),[])) (k2 aA (IntKind.wrap .i64 (i5+(1:Int))) bA cA))) (k1)
noncomputable def it2 (Kb1:Kont U El) (n:Nat):Kont U El:=iter nm2 (fun st' K'=>exec X (cdp [1,0,1,0,0] bd) .d st' K' (Eblk 0 (cutK nm1 Kb1) (fun _ _=>none)) RR) n
noncomputable def ct1:Kont U El:=fun st=>exec X (cdp [1,1] bd) .d st RR (fun _ _=>none) RR
theorem P0 (n s):exec X (cdp [] bd) (.seq none .d (.seq (some nm1) (.seq none .d (.block (.loop nm2 .d))) .d)) (fr0 n s) RR (fun _ _=>none) RR=sh0 n s (fun y0 y1 y2 y3=>(hid (it2 (hid ct1) 100000)) (fr2 y0 y1 y2 y3)):=by kernel_rfl
theorem P1:ct1 (fr1)=sh1:=by kernel_rfl
theorem P2 (aA i5 bA cA) (Kb1 Kb2:Kont U El):exec X (cdp [1,0,1,0,0] bd) .d (fr2 aA i5 bA cA) (cutK nm2 Kb2) (Eblk 0 (cutK nm1 Kb1) (fun _ _=>none)) RR=sh2 aA i5 bA cA (Kb1 (fr1)) (fun y0 y1 y2 y3=>Kb2 (fr2 y0 y1 y2 y3)):=by kernel_rfl
noncomputable def f1:R:=sh1
noncomputable def f2:Nat→Y2
 | 0=>fun _ _ _ _=>none
 | n+1=>fun aA i5 bA cA=>sh2 aA i5 bA cA f1 (f2 n)
noncomputable def f0 (n:Net) (s:List UInt8):R:=sh0 n s (f2 100000)
theorem T1:(hid ct1) (fr1)=f1:=by
 refine (congrFun (hid_eq _) _).trans <| (P1).trans ?_
 show _=sh1
 rfl
theorem T2:∀ (n:Nat),∀ aA i5 bA cA,it2 (hid ct1) n (fr2 aA i5 bA cA)=f2 n aA i5 bA cA:=by
  intro n
  induction n with
  | zero=>intros; rfl
  | succ n ih =>
    intro aA i5 bA cA
    refine (P2 aA i5 bA cA (hid ct1) (it2 (hid ct1) n)).trans ?_
    show _=sh2 aA i5 bA cA f1 (f2 n)
    simp only [T1,ih]
theorem H2 (aA i5 bA cA):hid (it2 (hid ct1) 100000) (fr2 aA i5 bA cA)=f2 100000 aA i5 bA cA:=(congrFun (hid_eq _) _).trans (T2 100000 aA i5 bA cA)
theorem T0 (n s):exec X bd (.seq none .d (.seq (some nm1) (.seq none .d (.block (.loop nm2 .d))) .d)) (fr0 n s) RR (fun _ _=>none) RR=f0 n s:=by
 refine (P0 n s).trans ?_
 show _=sh0 n s (f2 100000)
 simp only [H2]
theorem run (n s):runFn X bd (.seq none .d (.seq (some nm1) (.seq none .d (.block (.loop nm2 .d))) .d)) nmR [4] [] [(.agg [(.lst .node n.nds),(.lst .link n.lks)]),(.str s)]=f0 n s:=T0 n s
theorem f0_eq (n:Net) (s:List UInt8) (h:okN n=true):f0 n s=outI (linkZ n s):=by
 have hl:=nleI (okN_lks h)
 refine (grun_eq n.lks (by omega) (fun m (_:Unit) i=>f2 m s i n.nds n.lks) _ (fun _=>outI (-1)) (fun m u i hi=>?_) (fun m u=>?_) 100000 0 () (by omega) (by omega)).trans (grun_find (isLink s) outI n.lks 0)
 ·show sh2 s i n.nds n.lks f1 (f2 m)=_
  unfold sh2
  rw [iltT (by simp; omega),inbT hi,toNat_nat,getD_lt hi]
  rfl
 ·show sh2 s (n.lks.length:Int) n.nds n.lks f1 (f2 m)=_
  unfold sh2
  rw [iltF (by simp)]
  rfl
theorem ok:CtxOk Tryz.prog X:=ctxOk tab spN dpN
theorem okM:MOk Tryz.prog X:=fun g sp h=>by cases h
theorem spec (n:Net) (s:List UInt8) (h:(okN n)=true):CallSpec Tryz.prog E 76 [(.agg [(.lst .node n.nds),(.lst .link n.lks)]),(.str s)] (.int .i64 (linkZ n s)) [] :=
 rfs ok okM Tryz.call76 Tryz.func76 ((run n s).trans (f0_eq n s h))
noncomputable def sp:Sp U El:=fun args k=>match args with
 | [.agg [.lst .node n_nds,.lst .link n_lks],.str s]=>chk (okN (⟨n_nds,n_lks⟩:Net)) (k (.int .i64 (linkZ (⟨n_nds,n_lks⟩:Net) s)) [])
 | _=>none
theorem spOk:SpOk Tryz.prog E 76 sp:=⟨fun vs=>by unfold sp;split;exact det_c _ _ _;exact ⟨none,fun _=>rfl⟩,fun vs k r h=>by unfold sp at h;split at h;(obtain ⟨h1,h2⟩:=chk_some h;exact ⟨_,_,spec ⟨_,_⟩ _ h1,h2⟩);cases h⟩
end rfindLink
namespace found
noncomputable def bd:Code:=(Tryz.f117.body).getD .skip
noncomputable def X:Ctx U El:=⟨E,tds,zeros,eqs,specOf [],100000,9,dspecOf [],fun _=>none,fun _=>none⟩
noncomputable def nmR:Norm U:=⟨[],[4,5],[],[],[],[],[]⟩
noncomputable def RR:Kont U El:=fun st=>normK nmR st (retFin [4,5] [])
noncomputable def fr0 (n:Net) (i:Int):St U El:=⟨[(0,(.agg [(.lst .node n.nds),(.lst .link n.lks)])),(1,(.int .i64 i))],[]⟩
noncomputable def sh0 (n:Net) (i:Int):R :=
 condB (ilt i (0:Int)) (some ((.tup [(.int .i64 (0:Int)),(.int .i64 (9:Int))]),[])) (some ((.tup [(.int .i64 i),(.int .i64 (0:Int))]),[]))
theorem P0 (n i):exec X (cdp [] bd) .d (fr0 n i) RR (fun _ _=>none) RR=sh0 n i:=by kernel_rfl
noncomputable def f0 (n:Net) (i:Int):R:=sh0 n i
theorem T0 (n i):exec X bd .d (fr0 n i) RR (fun _ _=>none) RR=f0 n i:=by
 refine (P0 n i).trans ?_
 show _=sh0 n i
 rfl
theorem run (n i):runFn X bd .d nmR [4,5] [] [(.agg [(.lst .node n.nds),(.lst .link n.lks)]),(.int .i64 i)]=f0 n i:=T0 n i
theorem f0_eq (n:Net) (i:Int):f0 n i=some (.tup [.int .i64 (bif ilt i 0 then 0 else i),.int .i64 (bif ilt i 0 then 9 else 0)],[]):=by
 show sh0 n i=_
 unfold sh0
 cases ilt i 0<;>rfl
theorem ok:CtxOk Tryz.prog X:=ctxOk tab spN dpN
theorem okM:MOk Tryz.prog X:=fun g sp h=>by cases h
theorem spec (n:Net) (i:Int):CallSpec Tryz.prog E 117 [(.agg [(.lst .node n.nds),(.lst .link n.lks)]),(.int .i64 i)] (.tup [(.int .i64 ((bif ilt i 0 then 0 else i))),(.int .i64 ((bif ilt i 0 then 9 else 0)))]) [] :=
 rfs ok okM Tryz.call117 Tryz.func117 ((run n i).trans (f0_eq n i))
noncomputable def sp:Sp U El:=fun args k=>match args with
 | [.agg [.lst .node n_nds,.lst .link n_lks],.int .i64 i]=>k (.tup [(.int .i64 ((bif ilt i 0 then 0 else i))),(.int .i64 ((bif ilt i 0 then 9 else 0)))]) []
 | _=>none
theorem spOk:SpOk Tryz.prog E 117 sp:=⟨fun vs=>by unfold sp;split;exact ⟨some (_,_),fun _=>rfl⟩;exact ⟨none,fun _=>rfl⟩,fun vs k r h=>by unfold sp at h;split at h;exact ⟨_,_,spec ⟨_,_⟩ _,h⟩;cases h⟩
end found
end Go.Proofs.YthdimnlkcgchoaaGreat
