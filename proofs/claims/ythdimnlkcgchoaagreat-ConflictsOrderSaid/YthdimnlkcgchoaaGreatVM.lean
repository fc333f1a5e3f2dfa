import Derived.Test.YthdimnlkcgchoaaGreatVL
import Derived.Test.YthdimnlkcgchoaaGreatPM
namespace Go.Proofs.YthdimnlkcgchoaaGreat
set_option linter.all false
set_option maxRecDepth 100000
noncomputable def failsN (ns:List (List UInt8)) (v:List Int) (c:Cnd):Bool:=!((ilt (List.getD v (Int.toNat (findZ (fun x=>x == c.cn) 0 ns)) 0) c.cl) == c.cb)
noncomputable def failsC (nds:List Node) (v:List Int) (c:Cnd):Bool:=failsN (nds.map Node.nn) v c
noncomputable def hasLevN (ns:List (List UInt8)) (v:List Int) (c:Cnd):Bool:=inb (findZ (fun x=>x == c.cn) 0 ns) v.length
noncomputable def hasLev (nds:List Node) (v:List Int) (c:Cnd):Bool:=nle nds.length 90000&&hasLevN (nds.map Node.nn) v c
noncomputable def holdN (ns:List (List UInt8)) (v:List Int) (w:List Cnd):Bool:=!(List.any w (failsN ns v))
noncomputable def holdB (nds:List Node) (v:List Int) (w:List Cnd):Bool:=holdN (nds.map Node.nn) v w
noncomputable def hasLevR (nds:List Node) (v:List Int) (r:Rule):Bool:=nle r.rw.length 90000&&List.all r.rw (hasLev nds v)
noncomputable def fitsR (s:List UInt8) (nds:List Node) (v:List Int) (r:Rule):Bool:=(r.rl == s)&&holdB nds v r.rw
noncomputable def someB (l:List Rule) (s:List UInt8) (nds:List Node) (v:List Int):Bool:=List.any l (fitsR s nds v)
namespace ho1
noncomputable def bd:Code:=(Tryz.f120.body).getD .skip
noncomputable def X:Ctx U El:=⟨E,tds,zeros,eqs,specOf [(109,ho11X.sp)],100000,20,dspecOf [],fun _=>none,fun _=>none⟩
noncomputable def nmR:Norm U:=⟨[],[4],[],[],[],[],[]⟩
noncomputable def RR:Kont U El:=fun st=>normK nmR st (retFin [4] [])
noncomputable def fr0 (x:Cnd) (nds:List Node) (lks:List Lnk) (v:List Int):St U El:=⟨[(0,(.agg [(.str x.cn),(.bool x.cb),(.int .i64 x.cl)])),(1,(.pcs [(.lst .node nds),(.lst .link lks)] 0)),(2,(.pcs [(.lst .int v)] 0))],[]⟩
noncomputable def sh0 (x:Cnd) (nds:List Node) (lks:List Lnk) (v:List Int):R :=
 chk (nle (List.length nds) 90000) (chk (inb (findZ (isNode x.cn) 0 nds) (List.length v)) (some ((.bool (!((ilt (List.getD v (Int.toNat (findZ (isNode x.cn) 0 nds)) d_int) x.cl) == x.cb))),[])))
theorem P0 (x nds lks v):exec X (cdp [] bd) .d (fr0 x nds lks v) RR (fun _ _=>none) RR=sh0 x nds lks v:=by kernel_rfl
noncomputable def f0 (x:Cnd) (nds:List Node) (lks:List Lnk) (v:List Int):R:=sh0 x nds lks v
theorem T0 (x nds lks v):exec X bd .d (fr0 x nds lks v) RR (fun _ _=>none) RR=f0 x nds lks v:=by
 refine (P0 x nds lks v).trans ?_
 show _=sh0 x nds lks v
 rfl
theorem run (x nds lks v):runFn X bd .d nmR [4] [] [(.agg [(.str x.cn),(.bool x.cb),(.int .i64 x.cl)]),(.pcs [(.lst .node nds),(.lst .link lks)] 0),(.pcs [(.lst .int v)] 0)]=f0 x nds lks v:=T0 x nds lks v
theorem f0_eq (x:Cnd) (nds:List Node) (lks:List Lnk) (v:List Int) (h:hasLev nds v x=true):f0 x nds lks v=outB (failsC nds v x):=by
 simp only [hasLev,hasLevN,Bool.and_eq_true] at h
 show sh0 x nds lks v=_
 unfold sh0 failsC failsN
 rw [← findZ_names,h.1,h.2]
 rfl
theorem ok:CtxOk Tryz.prog X:=ctxOk tab (spC ho11X.spOk spN) dpN
theorem okM:MOk Tryz.prog X:=fun g sp h=>by cases h
theorem spec (x:Cnd) (nds:List Node) (lks:List Lnk) (v:List Int) (h:((hasLev nds v) x)=true):CallSpec Tryz.prog E 120 [(.agg [(.str x.cn),(.bool x.cb),(.int .i64 x.cl)]),(.pcs [(.lst .node nds),(.lst .link lks)] 0),(.pcs [(.lst .int v)] 0)] (.bool ((failsC nds v) x)) [] :=
 rfs ok okM Tryz.call120 Tryz.func120 ((run x nds lks v).trans (f0_eq x nds lks v h))
noncomputable def sp:Sp U El:=fun args k=>match args with
 | [.agg [.str x_cn,.bool x_cb,.int .i64 x_cl],.pcs [.lst .node nds,.lst .link lks] 0,.pcs [.lst .int v] 0]=>chk ((hasLev nds v) (⟨x_cn,x_cb,x_cl⟩:Cnd)) (k (.bool ((failsC nds v) (⟨x_cn,x_cb,x_cl⟩:Cnd))) [])
 | _=>none
theorem spOk:SpOk Tryz.prog E 120 sp:=⟨fun vs=>by unfold sp;split;exact det_c _ _ _;exact ⟨none,fun _=>rfl⟩,fun vs k r h=>by unfold sp at h;split at h;(obtain ⟨h1,h2⟩:=chk_some h;exact ⟨_,_,spec ⟨_,_,_⟩ _ _ _ h1,h2⟩);cases h⟩
end ho1
namespace ho1X
noncomputable def bd:Code:=(Tryz.f130.body).getD .skip
noncomputable def X:Ctx U El:=⟨E,tds,zeros,eqs,specOf [(120,ho1.sp)],100000,19,dspecOf [],fun _=>none,fun _=>none⟩
noncomputable def nmR:Norm U:=⟨[],[4],[],[],[],[],[]⟩
noncomputable def RR:Kont U El:=fun st=>normK nmR st (retFin [4] [])
noncomputable def nm1:Norm U:=⟨[],[],[],[],[],[],[]⟩
noncomputable def nm2:Norm U:=⟨[],[0,1,7,8],[],[],[],[],[]⟩
abbrev Y1:=R
abbrev Y2:=(List Cnd)→(List Node)→(List Lnk)→(List Int)→Int→Int→R
noncomputable def fr0 (l:List Cnd) (nds:List Node) (lks:List Lnk) (v:List Int):St U El:=⟨[(0,(.lst .cnd l)),(1,(.fn 120 [] [(.pcs [(.lst .node nds),(.lst .link lks)] 0),(.pcs [(.lst .int v)] 0)]))],[]⟩
noncomputable def fr1:St U El:=⟨[],[]⟩
noncomputable def fr2 (s0:List Cnd) (f1c_0:List Node) (f1c_1:List Lnk) (f1c_0_1:List Int) (x7:Int) (x8:Int):St U El:=⟨[(0,(.lst .cnd s0)),(1,(.fn 120 [] [(.pcs [(.lst .node f1c_0),(.lst .link f1c_1)] 0),(.pcs [(.lst .int f1c_0_1)] 0)])),(7,(.int .i64 x7)),(8,(.int .i64 x8))],[]⟩
noncomputable def sh0 (l:List Cnd) (nds:List Node) (lks:List Lnk) (v:List Int) (k2:Y2):R :=
 k2 l nds lks v (Int.ofNat (List.length l)) (0:Int)
noncomputable def sh1:R :=
 some ((.int .i64 (-1:Int)),[])
noncomputable def sh2 (s0:List Cnd) (f1c_0:List Node) (f1c_1:List Lnk) (f1c_0_1:List Int) (x7:Int) (x8:Int) (k1:Y1) (k2:Y2):R :=
 condB (ilt x8 x7) (chk (inb x8 (List.length s0)) (chk ((hasLev f1c_0 f1c_0_1) (List.getD s0 (Int.toNat x8) d_cnd)) (condB ((failsC f1c_0 f1c_0_1) (List.getD s0 (Int.toNat x8) d_cnd)) (some ((.int .i64 x8),[])) (k2 s0 f1c_0 f1c_1 f1c_0_1 x7 (IntKind.wrap .i64 (x8+(1:Int))))))) (k1)
noncomputable def it2 (Kb1:Kont U El) (n:Nat):Kont U El:=iter nm2 (fun st' K'=>exec X (cdp [1,0,1,0,0] bd) .d st' K' (Eblk 0 (cutK nm1 Kb1) (fun _ _=>none)) RR) n
noncomputable def ct1:Kont U El:=fun st=>exec X (cdp [1,1] bd) .d st RR (fun _ _=>none) RR
theorem P0 (l nds lks v):exec X (cdp [] bd) (.seq none .d (.seq (some nm1) (.seq none .d (.block (.loop nm2 .d))) .d)) (fr0 l nds lks v) RR (fun _ _=>none) RR=sh0 l nds lks v (fun y0 y1 y2 y3 y4 y5=>(hid (it2 (hid ct1) 100000)) (fr2 y0 y1 y2 y3 y4 y5)):=by kernel_rfl
theorem P1:ct1 (fr1)=sh1:=by kernel_rfl
theorem P2 (s0 f1c_0 f1c_1 f1c_0_1 x7 x8) (Kb1 Kb2:Kont U El):exec X (cdp [1,0,1,0,0] bd) .d (fr2 s0 f1c_0 f1c_1 f1c_0_1 x7 x8) (cutK nm2 Kb2) (Eblk 0 (cutK nm1 Kb1) (fun _ _=>none)) RR=sh2 s0 f1c_0 f1c_1 f1c_0_1 x7 x8 (Kb1 (fr1)) (fun y0 y1 y2 y3 y4 y5=>Kb2 (fr2 y0 y1 y2 y3 y4 y5)):=by kernel_rfl
noncomputable def f1:R:=sh1
noncomputable def f2:Nat→Y2
 | 0=>fun _ _ _ _ _ _=>none
 | n+1=>fun s0 f1c_0 f1c_1 f1c_0_1 x7 x8=>sh2 s0 f1c_0 f1c_1 f1c_0_1 x7 x8 f1 (f2 n)
noncomputable def f0 (l:List Cnd) (nds:List Node) (lks:List Lnk) (v:List Int):R:=sh0 l nds lks v (f2 100000)
theorem T1:(hid ct1) (fr1)=f1:=by
 refine (congrFun (hid_eq _) _).trans <| (P1).trans ?_
 show _=sh1
 rfl
theorem T2:∀ (n:Nat),∀ s0 f1c_0 f1c_1 f1c_0_1 x7 x8,it2 (hid ct1) n (fr2 s0 f1c_0 f1c_1 f1c_0_1 x7 x8)=f2 n s0 f1c_0 f1c_1 f1c_0_1 x7 x8:=by
  intro n
  induction n with
  | zero=>intros; rfl
  | succ n ih =>
    intro s0 f1c_0 f1c_1 f1c_0_1 x7 x8
    refine (P2 s0 f1c_0 f1c_1 f1c_0_1 x7 x8 (hid ct1) (it2 (hid ct1) n)).trans ?_
    show _=sh2 s0 f1c_0 f1c_1 f1c_0_1 x7 x8 f1 (f2 n)
    simp only [T1,ih]
theorem H2 (s0 f1c_0 f1c_1 f1c_0_1 x7 x8):hid (it2 (hid ct1) 100000) (fr2 s0 f1c_0 f1c_1 f1c_0_1 x7 x8)=f2 100000 s0 f1c_0 f1c_1 f1c_0_1 x7 x8:=(congrFun (hid_eq _) _).trans (T2 100000 s0 f1c_0 f1c_1 f1c_0_1 x7 x8)
theorem T0 (l nds lks v):exec X bd (.seq none .d (.seq (some nm1) (.seq none .d (.block (.loop nm2 .d))) .d)) (fr0 l nds lks v) RR (fun _ _=>none) RR=f0 l nds lks v:=by
 refine (P0 l nds lks v).trans ?_
 show _=sh0 l nds lks v (f2 100000)
 simp only [H2]
theorem run (l nds lks v):runFn X bd (.seq none .d (.seq (some nm1) (.seq none .d (.block (.loop nm2 .d))) .d)) nmR [4] [] [(.lst .cnd l),(.fn 120 [] [(.pcs [(.lst .node nds),(.lst .link lks)] 0),(.pcs [(.lst .int v)] 0)])]=f0 l nds lks v:=T0 l nds lks v
theorem f0_eq (l:List Cnd) (nds:List Node) (lks:List Lnk) (v:List Int) (h:((nle (List.length l) 90000&&List.all l (hasLev nds v)))=true):f0 l nds lks v=outI (findZ (failsC nds v) 0 l):=by
 simp only [Bool.and_eq_true] at h
 have ha:=List.all_eq_true.1 h.2
 have hl:=nleI h.1
 refine (grun_eq l (by omega) (fun n_ (_:Unit) i_=>f2 n_ l nds lks v (Int.ofNat l.length) i_) _ (fun _=>outI (-1)) (fun n_ u_ i_ hi_=>?_) (fun n_ u_=>?_) 100000 0 () (by omega) (by omega)).trans (grun_find (failsC nds v) outI l 0)
 ·show sh2 l nds lks v (Int.ofNat l.length) i_ f1 (f2 n_)=_
  unfold sh2
  rw [iltT (by simp; omega),inbT hi_,toNat_nat,getD_lt hi_,ha l[i_] (List.getElem_mem hi_)]
  rfl
 ·show sh2 l nds lks v (Int.ofNat l.length) (l.length:Int) f1 (f2 n_)=_
  unfold sh2
  rw [iltF (by simp)]
  rfl
theorem ok:CtxOk Tryz.prog X:=ctxOk tab (spC ho1.spOk spN) dpN
theorem okM:MOk Tryz.prog X:=fun g sp h=>by cases h
theorem spec (l:List Cnd) (nds:List Node) (lks:List Lnk) (v:List Int) (h:((nle (List.length l) 90000&&List.all l (hasLev nds v)))=true):CallSpec Tryz.prog E 130 [(.lst .cnd l),(.fn 120 [] [(.pcs [(.lst .node nds),(.lst .link lks)] 0),(.pcs [(.lst .int v)] 0)])] (.int .i64 (findZ (failsC nds v) 0 l)) [] :=
 rfs ok okM Tryz.call130 Tryz.func130 ((run l nds lks v).trans (f0_eq l nds lks v h))
noncomputable def sp:Sp U El:=fun args k=>match args with
 | [.lst .cnd l,.fn 120 [] [.pcs [.lst .node nds,.lst .link lks] 0,.pcs [.lst .int v] 0]]=>chk ((nle (List.length l) 90000&&List.all l (hasLev nds v))) (k (.int .i64 (findZ (failsC nds v) 0 l)) [])
 | _=>none
theorem spOk:SpOk Tryz.prog E 130 sp:=⟨fun vs=>by unfold sp;split;exact det_c _ _ _;exact ⟨none,fun _=>rfl⟩,fun vs k r h=>by unfold sp at h;split at h;(obtain ⟨h1,h2⟩:=chk_some h;exact ⟨_,_,spec _ _ _ _ h1,h2⟩);cases h⟩
end ho1X
namespace ho1C
noncomputable def bd:Code:=(Tryz.f88.body).getD .skip
noncomputable def X:Ctx U El:=⟨E,tds,zeros,eqs,specOf [(130,ho1X.sp)],100000,9,dspecOf [],fun _=>none,fun _=>none⟩
noncomputable def nmR:Norm U:=⟨[],[4],[],[],[],[],[]⟩
noncomputable def RR:Kont U El:=fun st=>normK nmR st (retFin [4] [])
noncomputable def fr0 (l:List Cnd) (nds:List Node) (lks:List Lnk) (v:List Int):St U El:=⟨[(0,(.lst .cnd l)),(1,(.fn 120 [] [(.pcs [(.lst .node nds),(.lst .link lks)] 0),(.pcs [(.lst .int v)] 0)]))],[]⟩
noncomputable def sh0 (l:List Cnd) (nds:List Node) (lks:List Lnk) (v:List Int):R :=
 chk ((nle (List.length l) 90000&&List.all l (hasLev nds v))) (some ((.bool (ile (0:Int) (findZ (failsC nds v) 0 l))),[]))
theorem P0 (l nds lks v):exec X (cdp [] bd) .d (fr0 l nds lks v) RR (fun _ _=>none) RR=sh0 l nds lks v:=by kernel_rfl
noncomputable def f0 (l:List Cnd) (nds:List Node) (lks:List Lnk) (v:List Int):R:=sh0 l nds lks v
theorem T0 (l nds lks v):exec X bd .d (fr0 l nds lks v) RR (fun _ _=>none) RR=f0 l nds lks v:=by
 refine (P0 l nds lks v).trans ?_
 show _=sh0 l nds lks v
 rfl
theorem run (l nds lks v):runFn X bd .d nmR [4] [] [(.lst .cnd l),(.fn 120 [] [(.pcs [(.lst .node nds),(.lst .link lks)] 0),(.pcs [(.lst .int v)] 0)])]=f0 l nds lks v:=T0 l nds lks v
theorem f0_eq (l:List Cnd) (nds:List Node) (lks:List Lnk) (v:List Int) (h:((nle (List.length l) 90000&&List.all l (hasLev nds v)))=true):f0 l nds lks v=outB (List.any l (failsC nds v)):=by
 show chk _ (outB _)=_
 rw [h,chkT,findZ_any]
theorem ok:CtxOk Tryz.prog X:=ctxOk tab (spC ho1X.spOk spN) dpN
theorem okM:MOk Tryz.prog X:=fun g sp h=>by cases h
theorem spec (l:List Cnd) (nds:List Node) (lks:List Lnk) (v:List Int) (h:((nle (List.length l) 90000&&List.all l (hasLev nds v)))=true):CallSpec Tryz.prog E 88 [(.lst .cnd l),(.fn 120 [] [(.pcs [(.lst .node nds),(.lst .link lks)] 0),(.pcs [(.lst .int v)] 0)])] (.bool (List.any l (failsC nds v))) [] :=
 rfs ok okM Tryz.call88 Tryz.func88 ((run l nds lks v).trans (f0_eq l nds lks v h))
noncomputable def sp:Sp U El:=fun args k=>match args with
 | [.lst .cnd l,.fn 120 [] [.pcs [.lst .node nds,.lst .link lks] 0,.pcs [.lst .int v] 0]]=>chk ((nle (List.length l) 90000&&List.all l (hasLev nds v))) (k (.bool (List.any l (failsC nds v))) [])
 | _=>none
theorem spOk:SpOk Tryz.prog E 88 sp:=⟨fun vs=>by unfold sp;split;exact det_c _ _ _;exact ⟨none,fun _=>rfl⟩,fun vs k r h=>by unfold sp at h;split at h;(obtain ⟨h1,h2⟩:=chk_some h;exact ⟨_,_,spec _ _ _ _ h1,h2⟩);cases h⟩
end ho1C
namespace holds
noncomputable def bd:Code:=(Tryz.f74.body).getD .skip
noncomputable def X:Ctx U El:=⟨E,tds,zeros,eqs,specOf [(88,ho1C.sp)],100000,12,dspecOf [],fun _=>none,fun _=>none⟩
noncomputable def nmR:Norm U:=⟨[],[6],[],[],[],[],[]⟩
noncomputable def RR:Kont U El:=fun st=>normK nmR st (retFin [6] [])
noncomputable def fr0 (r:Rule) (n:Net) (v:List Int):St U El:=⟨[(0,(.agg [(.str r.rn),(.lst .cnd r.rw),(.str r.rl),(.int .i64 r.rs)])),(1,(.agg [(.lst .node n.nds),(.lst .link n.lks)])),(2,(.lst .int v))],[]⟩
noncomputable def sh0 (r:Rule) (n:Net) (v:List Int):R :=
 chk ((nle (List.length r.rw) 90000&&List.all r.rw (hasLev n.nds v))) (some ((.bool (!(List.any r.rw (failsC n.nds v)))),[]))
theorem P0 (r n v):exec X (cdp [] bd) .d (fr0 r n v) RR (fun _ _=>none) RR=sh0 r n v:=by kernel_rfl
noncomputable def f0 (r:Rule) (n:Net) (v:List Int):R:=sh0 r n v
theorem T0 (r n v):exec X bd .d (fr0 r n v) RR (fun _ _=>none) RR=f0 r n v:=by
 refine (P0 r n v).trans ?_
 show _=sh0 r n v
 rfl
theorem run (r n v):runFn X bd .d nmR [6] [] [(.agg [(.str r.rn),(.lst .cnd r.rw),(.str r.rl),(.int .i64 r.rs)]),(.agg [(.lst .node n.nds),(.lst .link n.lks)]),(.lst .int v)]=f0 r n v:=T0 r n v
theorem f0_eq (r:Rule) (n:Net) (v:List Int) (h:(nle (List.length (Rule.rw r)) 90000&&List.all (Rule.rw r) (hasLev (Net.nds n) v))=true):f0 r n v=outB (holdB n.nds v r.rw):=by
 show sh0 r n v=_
 unfold sh0
 rw [h]
 rfl
theorem ok:CtxOk Tryz.prog X:=ctxOk tab (spC ho1C.spOk spN) dpN
theorem okM:MOk Tryz.prog X:=fun g sp h=>by cases h
theorem spec (r:Rule) (n:Net) (v:List Int) (h:((nle (List.length (Rule.rw r)) 90000&&List.all (Rule.rw r) (hasLev (Net.nds n) v)))=true):CallSpec Tryz.prog E 74 [(.agg [(.str r.rn),(.lst .cnd r.rw),(.str r.rl),(.int .i64 r.rs)]),(.agg [(.lst .node n.nds),(.lst .link n.lks)]),(.lst .int v)] (.bool (holdB (Net.nds n) v (Rule.rw r))) [] :=
 rfs ok okM Tryz.call74 Tryz.func74 ((run r n v).trans (f0_eq r n v h))
noncomputable def sp:Sp U El:=fun args k=>match args with
 | [.agg [.str r_rn,.lst .cnd r_rw,.str r_rl,.int .i64 r_rs],.agg [.lst .node n_nds,.lst .link n_lks],.lst .int v]=>chk ((nle (List.length (Rule.rw (⟨r_rn,r_rw,r_rl,r_rs⟩:Rule))) 90000&&List.all (Rule.rw (⟨r_rn,r_rw,r_rl,r_rs⟩:Rule)) (hasLev (Net.nds (⟨n_nds,n_lks⟩:Net)) v))) (k (.bool (holdB (Net.nds (⟨n_nds,n_lks⟩:Net)) v (Rule.rw (⟨r_rn,r_rw,r_rl,r_rs⟩:Rule)))) [])
 | _=>none
theorem spOk:SpOk Tryz.prog E 74 sp:=⟨fun vs=>by unfold sp;split;exact det_c _ _ _;exact ⟨none,fun _=>rfl⟩,fun vs k r h=>by unfold sp at h;split at h;(obtain ⟨h1,h2⟩:=chk_some h;exact ⟨_,_,spec ⟨_,_,_,_⟩ ⟨_,_⟩ _ h1,h2⟩);cases h⟩
end holds
namespace cc11
noncomputable def bd:Code:=(Tryz.f73.body).getD .skip
noncomputable def X:Ctx U El:=⟨E,tds,zeros,eqs,specOf [(74,holds.sp)],100000,16,dspecOf [],fun _=>none,fun _=>none⟩
noncomputable def nmR:Norm U:=⟨[],[5],[],[],[],[],[]⟩
noncomputable def RR:Kont U El:=fun st=>normK nmR st (retFin [5] [])
noncomputable def fr0 (x:Rule) (s:List UInt8) (nds:List Node) (lks:List Lnk) (v:List Int):St U El:=⟨[(0,(.agg [(.str x.rn),(.lst .cnd x.rw),(.str x.rl),(.int .i64 x.rs)])),(1,(.pcs [(.str s)] 0)),(2,(.pcs [(.lst .node nds),(.lst .link lks)] 0)),(3,(.pcs [(.lst .int v)] 0))],[]⟩
noncomputable def sh0 (x:Rule) (s:List UInt8) (nds:List Node) (lks:List Lnk) (v:List Int):R :=
 condB (x.rl == s) (chk ((nle (List.length (Rule.rw x)) 90000&&List.all (Rule.rw x) (hasLev (Net.nds (⟨nds,lks⟩:Net)) v))) (some ((.bool (holdB (Net.nds (⟨nds,lks⟩:Net)) v (Rule.rw x))),[]))) (some ((.bool false),[]))
theorem P0 (x s nds lks v):exec X (cdp [] bd) .d (fr0 x s nds lks v) RR (fun _ _=>none) RR=sh0 x s nds lks v:=by kernel_rfl
noncomputable def f0 (x:Rule) (s:List UInt8) (nds:List Node) (lks:List Lnk) (v:List Int):R:=sh0 x s nds lks v
theorem T0 (x s nds lks v):exec X bd .d (fr0 x s nds lks v) RR (fun _ _=>none) RR=f0 x s nds lks v:=by
 refine (P0 x s nds lks v).trans ?_
 show _=sh0 x s nds lks v
 rfl
theorem run (x s nds lks v):runFn X bd .d nmR [5] [] [(.agg [(.str x.rn),(.lst .cnd x.rw),(.str x.rl),(.int .i64 x.rs)]),(.pcs [(.str s)] 0),(.pcs [(.lst .node nds),(.lst .link lks)] 0),(.pcs [(.lst .int v)] 0)]=f0 x s nds lks v:=T0 x s nds lks v
theorem f0_eq (x:Rule) (s:List UInt8) (nds:List Node) (lks:List Lnk) (v:List Int) (h:hasLevR nds v x=true):f0 x s nds lks v=outB (fitsR s nds v x):=by
 show sh0 x s nds lks v=_
 unfold sh0 fitsR
 have h':(nle (List.length x.rw) 90000&&List.all x.rw (hasLev nds v))=true:=h
 show condB (x.rl == s) (chk (nle (List.length x.rw) 90000&&List.all x.rw (hasLev nds v)) (outB (holdB nds v x.rw))) (outB false)=_
 rw [h']
 exact cAnd outB _ _
theorem ok:CtxOk Tryz.prog X:=ctxOk tab (spC holds.spOk spN) dpN
theorem okM:MOk Tryz.prog X:=fun g sp h=>by cases h
theorem spec (x:Rule) (s:List UInt8) (nds:List Node) (lks:List Lnk) (v:List Int) (h:((hasLevR nds v) x)=true):CallSpec Tryz.prog E 73 [(.agg [(.str x.rn),(.lst .cnd x.rw),(.str x.rl),(.int .i64 x.rs)]),(.pcs [(.str s)] 0),(.pcs [(.lst .node nds),(.lst .link lks)] 0),(.pcs [(.lst .int v)] 0)] (.bool ((fitsR s nds v) x)) [] :=
 rfs ok okM Tryz.call73 Tryz.func73 ((run x s nds lks v).trans (f0_eq x s nds lks v h))
noncomputable def sp:Sp U El:=fun args k=>match args with
 | [.agg [.str x_rn,.lst .cnd x_rw,.str x_rl,.int .i64 x_rs],.pcs [.str s] 0,.pcs [.lst .node nds,.lst .link lks] 0,.pcs [.lst .int v] 0]=>chk ((hasLevR nds v) (⟨x_rn,x_rw,x_rl,x_rs⟩:Rule)) (k (.bool ((fitsR s nds v) (⟨x_rn,x_rw,x_rl,x_rs⟩:Rule))) [])
 | _=>none
theorem spOk:SpOk Tryz.prog E 73 sp:=⟨fun vs=>by unfold sp;split;exact det_c _ _ _;exact ⟨none,fun _=>rfl⟩,fun vs k r h=>by unfold sp at h;split at h;(obtain ⟨h1,h2⟩:=chk_some h;exact ⟨_,_,spec ⟨_,_,_,_⟩ _ _ _ _ h1,h2⟩);cases h⟩
end cc11
namespace cc11X
noncomputable def bd:Code:=(Tryz.f111.body).getD .skip
noncomputable def X:Ctx U El:=⟨E,tds,zeros,eqs,specOf [(73,cc11.sp)],100000,19,dspecOf [],fun _=>none,fun _=>none⟩
noncomputable def nmR:Norm U:=⟨[],[4],[],[],[],[],[]⟩
noncomputable def RR:Kont U El:=fun st=>normK nmR st (retFin [4] [])
noncomputable def nm1:Norm U:=⟨[],[],[],[],[],[],[]⟩
noncomputable def nm2:Norm U:=⟨[],[0,1,7,8],[],[],[],[],[]⟩
abbrev Y1:=R
abbrev Y2:=(List Rule)→(List UInt8)→(List Node)→(List Lnk)→(List Int)→Int→Int→R
noncomputable def fr0 (l:List Rule) (s:List UInt8) (nds:List Node) (lks:List Lnk) (v:List Int):St U El:=⟨[(0,(.lst .rule l)),(1,(.fn 73 [] [(.pcs [(.str s)] 0),(.pcs [(.lst .node nds),(.lst .link lks)] 0),(.pcs [(.lst .int v)] 0)]))],[]⟩
noncomputable def fr1:St U El:=⟨[],[]⟩
noncomputable def fr2 (s0:List Rule) (f1c_0:List UInt8) (f1c_0_1:List Node) (f1c_1:List Lnk) (f1c_0_2:List Int) (x7:Int) (x8:Int):St U El:=⟨[(0,(.lst .rule s0)),(1,(.fn 73 [] [(.pcs [(.str f1c_0)] 0),(.pcs [(.lst .node f1c_0_1),(.lst .link f1c_1)] 0),(.pcs [(.lst .int f1c_0_2)] 0)])),(7,(.int .i64 x7)),(8,(.int .i64 x8))],[]⟩
noncomputable def sh0 (l:List Rule) (s:List UInt8) (nds:List Node) (lks:List Lnk) (v:List Int) (k2:Y2):R :=
 k2 l s nds lks v (Int.ofNat (List.length l)) (0:Int)
noncomputable def sh1:R :=
 some ((.int .i64 (-1:Int)),[])
noncomputable def sh2 (s0:List Rule) (f1c_0:List UInt8) (f1c_0_1:List Node) (f1c_1:List Lnk) (f1c_0_2:List Int) (x7:Int) (x8:Int) (k1:Y1) (k2:Y2):R :=
 condB (ilt x8 x7) (chk (inb x8 (List.length s0)) (chk ((hasLevR f1c_0_1 f1c_0_2) (List.getD s0 (Int.toNat x8) d_rule)) (condB ((fitsR f1c_0 f1c_0_1 f1c_0_2) (List.getD s0 (Int.toNat x8) d_rule)) (some ((.int .i64 x8),[])) (k2 s0 f1c_0 f1c_0_1 f1c_1 f1c_0_2 x7 (IntKind.wrap .i64 (x8+(1:Int))))))) (k1)
noncomputable def it2 (Kb1:Kont U El) (n:Nat):Kont U El:=iter nm2 (fun st' K'=>exec X (cdp [1,0,1,0,0] bd) .d st' K' (Eblk 0 (cutK nm1 Kb1) (fun _ _=>none)) RR) n
noncomputable def ct1:Kont U El:=fun st=>exec X (cdp [1,1] bd) .d st RR (fun _ _=>none) RR
theorem P0 (l s nds lks v):exec X (cdp [] bd) (.seq none .d (.seq (some nm1) (.seq none .d (.block (.loop nm2 .d))) .d)) (fr0 l s nds lks v) RR (fun _ _=>none) RR=sh0 l s nds lks v (fun y0 y1 y2 y3 y4 y5 y6=>(hid (it2 (hid ct1) 100000)) (fr2 y0 y1 y2 y3 y4 y5 y6)):=by kernel_rfl
theorem P1:ct1 (fr1)=sh1:=by kernel_rfl
theorem P2 (s0 f1c_0 f1c_0_1 f1c_1 f1c_0_2 x7 x8) (Kb1 Kb2:Kont U El):exec X (cdp [1,0,1,0,0] bd) .d (fr2 s0 f1c_0 f1c_0_1 f1c_1 f1c_0_2 x7 x8) (cutK nm2 Kb2) (Eblk 0 (cutK nm1 Kb1) (fun _ _=>none)) RR=sh2 s0 f1c_0 f1c_0_1 f1c_1 f1c_0_2 x7 x8 (Kb1 (fr1)) (fun y0 y1 y2 y3 y4 y5 y6=>Kb2 (fr2 y0 y1 y2 y3 y4 y5 y6)):=by kernel_rfl
noncomputable def f1:R:=sh1
noncomputable def f2:Nat→Y2
 | 0=>fun _ _ _ _ _ _ _=>none
 | n+1=>fun s0 f1c_0 f1c_0_1 f1c_1 f1c_0_2 x7 x8=>sh2 s0 f1c_0 f1c_0_1 f1c_1 f1c_0_2 x7 x8 f1 (f2 n)
noncomputable def f0 (l:List Rule) (s:List UInt8) (nds:List Node) (lks:List Lnk) (v:List Int):R:=sh0 l s nds lks v (f2 100000)
theorem T1:(hid ct1) (fr1)=f1:=by
 refine (congrFun (hid_eq _) _).trans <| (P1).trans ?_
 show _=sh1
 rfl
theorem T2:∀ (n:Nat),∀ s0 f1c_0 f1c_0_1 f1c_1 f1c_0_2 x7 x8,it2 (hid ct1) n (fr2 s0 f1c_0 f1c_0_1 f1c_1 f1c_0_2 x7 x8)=f2 n s0 f1c_0 f1c_0_1 f1c_1 f1c_0_2 x7 x8:=by
  intro n
  induction n with
  | zero=>intros; rfl
  | succ n ih =>
    intro s0 f1c_0 f1c_0_1 f1c_1 f1c_0_2 x7 x8
    refine (P2 s0 f1c_0 f1c_0_1 f1c_1 f1c_0_2 x7 x8 (hid ct1) (it2 (hid ct1) n)).trans ?_
    show _=sh2 s0 f1c_0 f1c_0_1 f1c_1 f1c_0_2 x7 x8 f1 (f2 n)
    simp only [T1,ih]
theorem H2 (s0 f1c_0 f1c_0_1 f1c_1 f1c_0_2 x7 x8):hid (it2 (hid ct1) 100000) (fr2 s0 f1c_0 f1c_0_1 f1c_1 f1c_0_2 x7 x8)=f2 100000 s0 f1c_0 f1c_0_1 f1c_1 f1c_0_2 x7 x8:=(congrFun (hid_eq _) _).trans (T2 100000 s0 f1c_0 f1c_0_1 f1c_1 f1c_0_2 x7 x8)
theorem T0 (l s nds lks v):exec X bd (.seq none .d (.seq (some nm1) (.seq none .d (.block (.loop nm2 .d))) .d)) (fr0 l s nds lks v) RR (fun _ _=>none) RR=f0 l s nds lks v:=by
 refine (P0 l s nds lks v).trans ?_
 show _=sh0 l s nds lks v (f2 100000)
 simp only [H2]
theorem run (l s nds lks v):runFn X bd (.seq none .d (.seq (some nm1) (.seq none .d (.block (.loop nm2 .d))) .d)) nmR [4] [] [(.lst .rule l),(.fn 73 [] [(.pcs [(.str s)] 0),(.pcs [(.lst .node nds),(.lst .link lks)] 0),(.pcs [(.lst .int v)] 0)])]=f0 l s nds lks v:=T0 l s nds lks v
theorem f0_eq (l:List Rule) (s:List UInt8) (nds:List Node) (lks:List Lnk) (v:List Int) (h:((nle (List.length l) 90000&&List.all l (hasLevR nds v)))=true):f0 l s nds lks v=outI (findZ (fitsR s nds v) 0 l):=by
 simp only [Bool.and_eq_true] at h
 have ha:=List.all_eq_true.1 h.2
 have hl:=nleI h.1
 refine (grun_eq l (by omega) (fun n_ (_:Unit) i_=>f2 n_ l s nds lks v (Int.ofNat l.length) i_) _ (fun _=>outI (-1)) (fun n_ u_ i_ hi_=>?_) (fun n_ u_=>?_) 100000 0 () (by omega) (by omega)).trans (grun_find (fitsR s nds v) outI l 0)
 ·show sh2 l s nds lks v (Int.ofNat l.length) i_ f1 (f2 n_)=_
  unfold sh2
  rw [iltT (by simp; omega),inbT hi_,toNat_nat,getD_lt hi_,ha l[i_] (List.getElem_mem hi_)]
  rfl
 ·show sh2 l s nds lks v (Int.ofNat l.length) (l.length:Int) f1 (f2 n_)=_
  unfold sh2
  rw [iltF (by simp)]
  rfl
theorem ok:CtxOk Tryz.prog X:=ctxOk tab (spC cc11.spOk spN) dpN
theorem okM:MOk Tryz.prog X:=fun g sp h=>by cases h
theorem spec (l:List Rule) (s:List UInt8) (nds:List Node) (lks:List Lnk) (v:List Int) (h:((nle (List.length l) 90000&&List.all l (hasLevR nds v)))=true):CallSpec Tryz.prog E 111 [(.lst .rule l),(.fn 73 [] [(.pcs [(.str s)] 0),(.pcs [(.lst .node nds),(.lst .link lks)] 0),(.pcs [(.lst .int v)] 0)])] (.int .i64 (findZ (fitsR s nds v) 0 l)) [] :=
 rfs ok okM Tryz.call111 Tryz.func111 ((run l s nds lks v).trans (f0_eq l s nds lks v h))
noncomputable def sp:Sp U El:=fun args k=>match args with
 | [.lst .rule l,.fn 73 [] [.pcs [.str s] 0,.pcs [.lst .node nds,.lst .link lks] 0,.pcs [.lst .int v] 0]]=>chk ((nle (List.length l) 90000&&List.all l (hasLevR nds v))) (k (.int .i64 (findZ (fitsR s nds v) 0 l)) [])
 | _=>none
theorem spOk:SpOk Tryz.prog E 111 sp:=⟨fun vs=>by unfold sp;split;exact det_c _ _ _;exact ⟨none,fun _=>rfl⟩,fun vs k r h=>by unfold sp at h;split at h;(obtain ⟨h1,h2⟩:=chk_some h;exact ⟨_,_,spec _ _ _ _ _ h1,h2⟩);cases h⟩
end cc11X
namespace cc11C
noncomputable def bd:Code:=(Tryz.f61.body).getD .skip
noncomputable def X:Ctx U El:=⟨E,tds,zeros,eqs,specOf [(111,cc11X.sp)],100000,9,dspecOf [],fun _=>none,fun _=>none⟩
noncomputable def nmR:Norm U:=⟨[],[4],[],[],[],[],[]⟩
noncomputable def RR:Kont U El:=fun st=>normK nmR st (retFin [4] [])
noncomputable def fr0 (l:List Rule) (s:List UInt8) (nds:List Node) (lks:List Lnk) (v:List Int):St U El:=⟨[(0,(.lst .rule l)),(1,(.fn 73 [] [(.pcs [(.str s)] 0),(.pcs [(.lst .node nds),(.lst .link lks)] 0),(.pcs [(.lst .int v)] 0)]))],[]⟩
noncomputable def sh0 (l:List Rule) (s:List UInt8) (nds:List Node) (lks:List Lnk) (v:List Int):R :=
 chk ((nle (List.length l) 90000&&List.all l (hasLevR nds v))) (some ((.bool (ile (0:Int) (findZ (fitsR s nds v) 0 l))),[]))
theorem P0 (l s nds lks v):exec X (cdp [] bd) .d (fr0 l s nds lks v) RR (fun _ _=>none) RR=sh0 l s nds lks v:=by kernel_rfl
noncomputable def f0 (l:List Rule) (s:List UInt8) (nds:List Node) (lks:List Lnk) (v:List Int):R:=sh0 l s nds lks v
theorem T0 (l s nds lks v):exec X bd .d (fr0 l s nds lks v) RR (fun _ _=>none) RR=f0 l s nds lks v:=by
 refine (P0 l s nds lks v).trans ?_
 show _=sh0 l s nds lks v
 rfl
theorem run (l s nds lks v):runFn X bd .d nmR [4] [] [(.lst .rule l),(.fn 73 [] [(.pcs [(.str s)] 0),(.pcs [(.lst .node nds),(.lst .link lks)] 0),(.pcs [(.lst .int v)] 0)])]=f0 l s nds lks v:=T0 l s nds lks v
theorem f0_eq (l:List Rule) (s:List UInt8) (nds:List Node) (lks:List Lnk) (v:List Int) (h:((nle (List.length l) 90000&&List.all l (hasLevR nds v)))=true):f0 l s nds lks v=outB (List.any l (fitsR s nds v)):=by
 show chk _ (outB _)=_
 rw [h,chkT,findZ_any]
theorem ok:CtxOk Tryz.prog X:=ctxOk tab (spC cc11X.spOk spN) dpN
theorem okM:MOk Tryz.prog X:=fun g sp h=>by cases h
theorem spec (l:List Rule) (s:List UInt8) (nds:List Node) (lks:List Lnk) (v:List Int) (h:((nle (List.length l) 90000&&List.all l (hasLevR nds v)))=true):CallSpec Tryz.prog E 61 [(.lst .rule l),(.fn 73 [] [(.pcs [(.str s)] 0),(.pcs [(.lst .node nds),(.lst .link lks)] 0),(.pcs [(.lst .int v)] 0)])] (.bool (List.any l (fitsR s nds v))) [] :=
 rfs ok okM Tryz.call61 Tryz.func61 ((run l s nds lks v).trans (f0_eq l s nds lks v h))
noncomputable def sp:Sp U El:=fun args k=>match args with
 | [.lst .rule l,.fn 73 [] [.pcs [.str s] 0,.pcs [.lst .node nds,.lst .link lks] 0,.pcs [.lst .int v] 0]]=>chk ((nle (List.length l) 90000&&List.all l (hasLevR nds v))) (k (.bool (List.any l (fitsR s nds v))) [])
 | _=>none
theorem spOk:SpOk Tryz.prog E 61 sp:=⟨fun vs=>by unfold sp;split;exact det_c _ _ _;exact ⟨none,fun _=>rfl⟩,fun vs k r h=>by unfold sp at h;split at h;(obtain ⟨h1,h2⟩:=chk_some h;exact ⟨_,_,spec _ _ _ _ _ h1,h2⟩);cases h⟩
end cc11C
end Go.Proofs.YthdimnlkcgchoaaGreat
