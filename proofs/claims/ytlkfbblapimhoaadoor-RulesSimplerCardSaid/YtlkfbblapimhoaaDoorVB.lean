/- What fires: names and levels as a map; the rules that hold. -/
import Derived.Test.YtlkfbblapimhoaaDoorVA
namespace Go.Proofs.YtlkfbblapimhoaaDoor
set_option linter.unusedSectionVars false
set_option linter.unusedSimpArgs false
set_option linter.unusedVariables false
set_option maxRecDepth 100000
noncomputable def longC (x:Cnd):Bool:=ilt 50 (Int.ofNat x.cn.length)
noncomputable def longN (x:List UInt8):Bool:=ilt 50 (Int.ofNat x.length)
noncomputable def slightB (r:Rule):Bool:=ile (IntKind.wrap .i64 ((Int.ofNat r.rn.length)+(Int.ofNat r.rl.length))) 100&&(ile (Int.ofNat r.rw.length) 25 && !(List.any r.rw longC))
noncomputable def shortB (ns:List (List UInt8)) (v:List Int):Bool:=ile (Int.ofNat ns.length) 30&&(ile (Int.ofNat v.length) 30 && !(List.any ns longN))
noncomputable def failsM (m:List ((List UInt8)×Int)) (x:Cnd):Bool:=(ile x.cl (mgetD kq_str m x.cn d_int)) == x.cb
noncomputable def knowsR (ns:List (List UInt8)) (r:Rule):Bool:=List.all r.rw (fun c=>List.elem c.cn ns)
noncomputable def freshI (ns:List (List UInt8)):Nat→List (List UInt8)→Bool
  | _,[]=>true
  | i,x :: l => !(List.elem x (ns.take i))&&freshI ns (i+1) l
noncomputable def gvE (l:List Rule) (ns:List (List UInt8)) (v:List Int):Int :=
  bif Nat.beq ns.length v.length then (bif freshI ns 0 ns then (bif List.all l (knowsR ns) then 0 else 9) else 10) else 3
noncomputable def holdsB (r:Rule) (ns:List (List UInt8)) (v:List Int):Bool:=bif ruleB r then (bif gvE [r] ns v == 0 then !(List.any r.rw (failsM (List.zip ns v))) else false) else false
noncomputable def holdsE (r:Rule) (ns:List (List UInt8)) (v:List Int):Int:=bif ruleB r then gvE [r] ns v else 1
noncomputable def outG (m:List ((List UInt8)×Int)):R:=some (.tup [.fmp .str .int m,.int .i64 0],[])
noncomputable def outGE (e:Int):R:=some (.tup [.nilm,.int .i64 e],[])
noncomputable def outV (b:Bool) (e:Int):R:=some (.tup [.bool b,.int .i64 e],[])
namespace sl1
noncomputable def bd:Code:=(Tryd.f29.body).getD .skip
noncomputable def X:Ctx U El:=⟨E,tds,zeros,eqs,specOf [],100000,7,dspecOf [],fun _=>none⟩
noncomputable def nmR:Norm U:=⟨[],[2],[],[],[],[],[]⟩
noncomputable def RR:Kont U El:=fun st=>normK nmR st (retFin [2] [])
noncomputable def fr0 (x:Cnd):St U El:=⟨[(0,(.agg [(.str x.cn),(.bool x.cb),(.int .i64 x.cl)]))],[]⟩
noncomputable def sh0 (x:Cnd):R :=
  some ((.bool (ilt (50:Int) (Int.ofNat (List.length x.cn)))),[])
theorem P0 (x):exec X (cdp [] bd) .d (fr0 x) RR (fun _ _=>none) RR=sh0 x:=by kernel_rfl
noncomputable def f0 (x:Cnd):R:=sh0 x
theorem T0 (x):exec X bd .d (fr0 x) RR (fun _ _=>none) RR=f0 x:=by
  refine (P0 x).trans ?_
  show _=sh0 x
  rfl
theorem run (x):runFn X bd .d nmR [2] [] [(.agg [(.str x.cn),(.bool x.cb),(.int .i64 x.cl)])]=f0 x:=T0 x
theorem f0_eq (x:Cnd):f0 x=outB (longC x):=rfl
theorem ok:CtxOk Tryd.prog X:=ctxOk tab spN dpN
theorem okM:MOk Tryd.prog X:=fun g sp h=>by cases h
theorem spec (x:Cnd):CallSpec Tryd.prog E 29 [(.agg [(.str x.cn),(.bool x.cb),(.int .i64 x.cl)])] (.bool (longC x)) [] :=
  runFn_sound ok okM Tryd.call29 Tryd.func29 (by kernel_rfl) (by kernel_rfl) (by kernel_rfl) (by show 1≤7; decide) (by decide) (by rfl) ((run x).trans (f0_eq x))
noncomputable def sp:Sp U El:=fun args k=>match args with
  | [.agg [.str x_cn,.bool x_cb,.int .i64 x_cl]]=>k (.bool (longC (⟨x_cn,x_cb,x_cl⟩:Cnd))) []
  | _=>none
theorem spOk:SpOk Tryd.prog E 29 sp where
  det:=fun vs=>by
    unfold sp
    split
    · exact ⟨some (_,_),fun _=>rfl⟩
    · exact ⟨none,fun _=>rfl⟩
  ok:=fun vs k r h=>by
    unfold sp at h
    split at h
    · exact ⟨_,_,spec ⟨_,_,_⟩,h⟩
    · cases h
end sl1
namespace sl1X
noncomputable def bd:Code:=(Tryd.f50.body).getD .skip
noncomputable def X:Ctx U El:=⟨E,tds,zeros,eqs,specOf [(29,sl1.sp)],100000,19,dspecOf [],fun _=>none⟩
noncomputable def nmR:Norm U:=⟨[],[4],[],[],[],[],[]⟩
noncomputable def RR:Kont U El:=fun st=>normK nmR st (retFin [4] [])
noncomputable def nm1:Norm U:=⟨[],[],[],[],[],[],[]⟩
noncomputable def nm2:Norm U:=⟨[],[0,1,7,8],[],[],[],[],[]⟩
abbrev Y1:=R
abbrev Y2:=(List Cnd)→Int→Int→R
noncomputable def fr0 (l:List Cnd):St U El:=⟨[(0,(.lst .cnd l)),(1,(.fn 29 [] []))],[]⟩
noncomputable def fr1:St U El:=⟨[],[]⟩
noncomputable def fr2 (s0:List Cnd) (x7:Int) (x8:Int):St U El:=⟨[(0,(.lst .cnd s0)),(1,(.fn 29 [] [])),(7,(.int .i64 x7)),(8,(.int .i64 x8))],[]⟩
noncomputable def sh0 (l:List Cnd) (k2:Y2):R :=
  k2 l (Int.ofNat (List.length l)) (0:Int)
noncomputable def sh1:R :=
  some ((.int .i64 (-1:Int)),[])
noncomputable def sh2 (s0:List Cnd) (x7:Int) (x8:Int) (k1:Y1) (k2:Y2):R :=
  condB (ilt x8 x7) (chk (inb x8 (List.length s0)) (condB (longC (List.getD s0 (Int.toNat x8) d_cnd)) (some ((.int .i64 x8),[])) (k2 s0 x7 (IntKind.wrap .i64 (x8+(1:Int)))))) (k1)
noncomputable def it2 (Kb1:Kont U El) (n:Nat):Kont U El:=iter nm2 (fun st' K'=>exec X (cdp [1,0,1,0,0] bd) .d st' K' (Eblk 0 (cutK nm1 Kb1) (fun _ _=>none)) RR) n
noncomputable def ct1:Kont U El:=fun st=>exec X (cdp [1,1] bd) .d st RR (fun _ _=>none) RR
theorem P0 (l):exec X (cdp [] bd) (.seq none .d (.seq (some nm1) (.seq none .d (.block (.loop nm2 .d))) .d)) (fr0 l) RR (fun _ _=>none) RR=sh0 l (fun y0 y1 y2=>(hid (it2 (hid ct1) 100000)) (fr2 y0 y1 y2)):=by kernel_rfl
theorem P1:ct1 (fr1)=sh1:=by kernel_rfl
theorem P2 (s0 x7 x8) (Kb1 Kb2:Kont U El):exec X (cdp [1,0,1,0,0] bd) .d (fr2 s0 x7 x8) (cutK nm2 Kb2) (Eblk 0 (cutK nm1 Kb1) (fun _ _=>none)) RR=sh2 s0 x7 x8 (Kb1 (fr1)) (fun y0 y1 y2=>Kb2 (fr2 y0 y1 y2)):=by kernel_rfl
noncomputable def f1:R:=sh1
noncomputable def f2:Nat→Y2
  | 0=>fun _ _ _=>none
  | n+1=>fun s0 x7 x8=>sh2 s0 x7 x8 f1 (f2 n)
noncomputable def f0 (l:List Cnd):R:=sh0 l (f2 100000)
theorem T1:(hid ct1) (fr1)=f1:=by
  refine (congrFun (hid_eq _) _).trans <| (P1).trans ?_
  show _=sh1
  rfl
theorem T2:∀ (n:Nat),∀ s0 x7 x8,it2 (hid ct1) n (fr2 s0 x7 x8)=f2 n s0 x7 x8:=by
  intro n
  induction n with
  | zero=>intros; rfl
  | succ n ih =>
    intro s0 x7 x8
    refine (P2 s0 x7 x8 (hid ct1) (it2 (hid ct1) n)).trans ?_
    show _=sh2 s0 x7 x8 f1 (f2 n)
    simp only [T1,ih]
theorem H2 (s0 x7 x8):hid (it2 (hid ct1) 100000) (fr2 s0 x7 x8)=f2 100000 s0 x7 x8:=(congrFun (hid_eq _) _).trans (T2 100000 s0 x7 x8)
theorem T0 (l):exec X bd (.seq none .d (.seq (some nm1) (.seq none .d (.block (.loop nm2 .d))) .d)) (fr0 l) RR (fun _ _=>none) RR=f0 l:=by
  refine (P0 l).trans ?_
  show _=sh0 l (f2 100000)
  simp only [H2]
theorem run (l):runFn X bd (.seq none .d (.seq (some nm1) (.seq none .d (.block (.loop nm2 .d))) .d)) nmR [4] [] [(.lst .cnd l),(.fn 29 [] [])]=f0 l:=T0 l
theorem f0_eq (l:List Cnd) (h:(nle (List.length l) 90000)=true):f0 l=outI (findZ longC 0 l):=by
  have hl:=nleI h
  refine (grun_eq l (by omega) (fun n_ (_:Unit) i_=>f2 n_ l (Int.ofNat l.length) i_) _ (fun _=>outI (-1)) (fun n_ u_ i_ hi_ => ?_) (fun n_ u_ => ?_) 100000 0 () (by omega) (by omega)).trans (grun_find longC outI l 0)
  · show sh2 l (Int.ofNat l.length) i_ f1 (f2 n_) = _
    unfold sh2
    rw [iltT (by simp; omega),inbT hi_,toNat_nat,getD_lt hi_]
    rfl
  · show sh2 l (Int.ofNat l.length) (l.length : Int) f1 (f2 n_) = _
    unfold sh2
    rw [iltF (by simp)]
    rfl
theorem ok:CtxOk Tryd.prog X:=ctxOk tab (spC sl1.spOk spN) dpN
theorem okM:MOk Tryd.prog X:=fun g sp h=>by cases h
theorem spec (l:List Cnd) (h:(nle (List.length l) 90000)=true):CallSpec Tryd.prog E 50 [(.lst .cnd l),(.fn 29 [] [])] (.int .i64 (findZ longC 0 l)) [] :=
  runFn_sound ok okM Tryd.call50 Tryd.func50 (by kernel_rfl) (by kernel_rfl) (by kernel_rfl) (by show 2≤19; decide) (by decide) (by rfl) ((run l).trans (f0_eq l h))
noncomputable def sp:Sp U El:=fun args k=>match args with
  | [.lst .cnd l,.fn 29 [] []]=>chk (nle (List.length l) 90000) (k (.int .i64 (findZ longC 0 l)) [])
  | _=>none
theorem spOk:SpOk Tryd.prog E 50 sp where
  det:=fun vs=>by
    unfold sp
    split
    · exact det_c _ _ _
    · exact ⟨none,fun _=>rfl⟩
  ok:=fun vs k r h=>by
    unfold sp at h
    split at h
    · obtain ⟨h1, h2⟩ := chk_some h
      exact ⟨_,_,spec _ h1,h2⟩
    · cases h
end sl1X
namespace sl1C
noncomputable def bd:Code:=(Tryd.f28.body).getD .skip
noncomputable def X:Ctx U El:=⟨E,tds,zeros,eqs,specOf [(50,sl1X.sp)],100000,9,dspecOf [],fun _=>none⟩
noncomputable def nmR:Norm U:=⟨[],[4],[],[],[],[],[]⟩
noncomputable def RR:Kont U El:=fun st=>normK nmR st (retFin [4] [])
noncomputable def fr0 (l:List Cnd):St U El:=⟨[(0,(.lst .cnd l)),(1,(.fn 29 [] []))],[]⟩
noncomputable def sh0 (l:List Cnd):R :=
  chk (nle (List.length l) 90000) (some ((.bool (ile (0:Int) (findZ longC 0 l))),[]))
theorem P0 (l):exec X (cdp [] bd) .d (fr0 l) RR (fun _ _=>none) RR=sh0 l:=by kernel_rfl
noncomputable def f0 (l:List Cnd):R:=sh0 l
theorem T0 (l):exec X bd .d (fr0 l) RR (fun _ _=>none) RR=f0 l:=by
  refine (P0 l).trans ?_
  show _=sh0 l
  rfl
theorem run (l):runFn X bd .d nmR [4] [] [(.lst .cnd l),(.fn 29 [] [])]=f0 l:=T0 l
theorem f0_eq (l:List Cnd) (h:(nle (List.length l) 90000)=true):f0 l=outB (List.any l longC):=by
  show chk _ (outB _)=_
  rw [h,chkT,findZ_any]
theorem ok:CtxOk Tryd.prog X:=ctxOk tab (spC sl1X.spOk spN) dpN
theorem okM:MOk Tryd.prog X:=fun g sp h=>by cases h
theorem spec (l:List Cnd) (h:(nle (List.length l) 90000)=true):CallSpec Tryd.prog E 28 [(.lst .cnd l),(.fn 29 [] [])] (.bool (List.any l longC)) [] :=
  runFn_sound ok okM Tryd.call28 Tryd.func28 (by kernel_rfl) (by kernel_rfl) (by kernel_rfl) (by show 2≤9; decide) (by decide) (by rfl) ((run l).trans (f0_eq l h))
noncomputable def sp:Sp U El:=fun args k=>match args with
  | [.lst .cnd l,.fn 29 [] []]=>chk (nle (List.length l) 90000) (k (.bool (List.any l longC)) [])
  | _=>none
theorem spOk:SpOk Tryd.prog E 28 sp where
  det:=fun vs=>by
    unfold sp
    split
    · exact det_c _ _ _
    · exact ⟨none,fun _=>rfl⟩
  ok:=fun vs k r h=>by
    unfold sp at h
    split at h
    · obtain ⟨h1, h2⟩ := chk_some h
      exact ⟨_,_,spec _ h1,h2⟩
    · cases h
end sl1C
namespace slight
noncomputable def bd:Code:=(Tryd.f8.body).getD .skip
noncomputable def X:Ctx U El:=⟨E,tds,zeros,eqs,specOf [(28,sl1C.sp)],100000,23,dspecOf [],fun _=>none⟩
noncomputable def nmR:Norm U:=⟨[],[2],[],[],[],[],[]⟩
noncomputable def RR:Kont U El:=fun st=>normK nmR st (retFin [2] [])
noncomputable def fr0 (r:Rule):St U El:=⟨[(0,(.agg [(.str r.rn),(.lst .cnd r.rw),(.str r.rl),(.int .i64 r.rs)]))],[]⟩
noncomputable def sh0 (r:Rule):R :=
  condB (ile (IntKind.wrap .i64 ((Int.ofNat (List.length r.rn))+(Int.ofNat (List.length r.rl)))) (100:Int)) (condB (ile (Int.ofNat (List.length r.rw)) (25:Int)) (chk (nle (List.length r.rw) 90000) (some ((.bool (!(List.any r.rw longC))),[]))) (some ((.bool false),[]))) (some ((.bool false),[]))
theorem P0 (r):exec X (cdp [] bd) .d (fr0 r) RR (fun _ _=>none) RR=sh0 r:=by kernel_rfl
noncomputable def f0 (r:Rule):R:=sh0 r
theorem T0 (r):exec X bd .d (fr0 r) RR (fun _ _=>none) RR=f0 r:=by
  refine (P0 r).trans ?_
  show _=sh0 r
  rfl
theorem run (r):runFn X bd .d nmR [2] [] [(.agg [(.str r.rn),(.lst .cnd r.rw),(.str r.rl),(.int .i64 r.rs)])]=f0 r:=T0 r
theorem f0_eq (r:Rule):f0 r=outB (slightB r):=by
  show sh0 r=_
  unfold sh0 slightB
  by_cases h:Int.ofNat r.rw.length≤(25:Int)
  · rw [show ile (Int.ofNat r.rw.length) 25 = true from ileT h, nleT (show r.rw.length ≤ 90000 by simp at h; omega)]
    exact cAnd outB _ _
  · rw [show ile (Int.ofNat r.rw.length) 25 = false from ileF h]
    cases ile _ _<;>rfl
theorem ok:CtxOk Tryd.prog X:=ctxOk tab (spC sl1C.spOk spN) dpN
theorem okM:MOk Tryd.prog X:=fun g sp h=>by cases h
theorem spec (r:Rule):CallSpec Tryd.prog E 8 [(.agg [(.str r.rn),(.lst .cnd r.rw),(.str r.rl),(.int .i64 r.rs)])] (.bool (slightB r)) [] :=
  runFn_sound ok okM Tryd.call8 Tryd.func8 (by kernel_rfl) (by kernel_rfl) (by kernel_rfl) (by show 1≤23; decide) (by decide) (by rfl) ((run r).trans (f0_eq r))
noncomputable def sp:Sp U El:=fun args k=>match args with
  | [.agg [.str r_rn,.lst .cnd r_rw,.str r_rl,.int .i64 r_rs]]=>k (.bool (slightB (⟨r_rn,r_rw,r_rl,r_rs⟩:Rule))) []
  | _=>none
theorem spOk:SpOk Tryd.prog E 8 sp where
  det:=fun vs=>by
    unfold sp
    split
    · exact ⟨some (_,_),fun _=>rfl⟩
    · exact ⟨none,fun _=>rfl⟩
  ok:=fun vs k r h=>by
    unfold sp at h
    split at h
    · exact ⟨_,_,spec ⟨_,_,_,_⟩,h⟩
    · cases h
end slight
namespace sh1
noncomputable def bd:Code:=(Tryd.f31.body).getD .skip
noncomputable def X:Ctx U El:=⟨E,tds,zeros,eqs,specOf [],100000,6,dspecOf [],fun _=>none⟩
noncomputable def nmR:Norm U:=⟨[],[2],[],[],[],[],[]⟩
noncomputable def RR:Kont U El:=fun st=>normK nmR st (retFin [2] [])
noncomputable def fr0 (x:List UInt8):St U El:=⟨[(0,(.str x))],[]⟩
noncomputable def sh0 (x:List UInt8):R :=
  some ((.bool (ilt (50:Int) (Int.ofNat (List.length x)))),[])
theorem P0 (x):exec X (cdp [] bd) .d (fr0 x) RR (fun _ _=>none) RR=sh0 x:=by kernel_rfl
noncomputable def f0 (x:List UInt8):R:=sh0 x
theorem T0 (x):exec X bd .d (fr0 x) RR (fun _ _=>none) RR=f0 x:=by
  refine (P0 x).trans ?_
  show _=sh0 x
  rfl
theorem run (x):runFn X bd .d nmR [2] [] [(.str x)]=f0 x:=T0 x
theorem f0_eq (x:List UInt8):f0 x=outB (longN x):=rfl
theorem ok:CtxOk Tryd.prog X:=ctxOk tab spN dpN
theorem okM:MOk Tryd.prog X:=fun g sp h=>by cases h
theorem spec (x:List UInt8):CallSpec Tryd.prog E 31 [(.str x)] (.bool (longN x)) [] :=
  runFn_sound ok okM Tryd.call31 Tryd.func31 (by kernel_rfl) (by kernel_rfl) (by kernel_rfl) (by show 1≤6; decide) (by decide) (by rfl) ((run x).trans (f0_eq x))
noncomputable def sp:Sp U El:=fun args k=>match args with
  | [.str x]=>k (.bool (longN x)) []
  | _=>none
theorem spOk:SpOk Tryd.prog E 31 sp where
  det:=fun vs=>by
    unfold sp
    split
    · exact ⟨some (_,_),fun _=>rfl⟩
    · exact ⟨none,fun _=>rfl⟩
  ok:=fun vs k r h=>by
    unfold sp at h
    split at h
    · exact ⟨_,_,spec _,h⟩
    · cases h
end sh1
namespace sh1X
noncomputable def bd:Code:=(Tryd.f51.body).getD .skip
noncomputable def X:Ctx U El:=⟨E,tds,zeros,eqs,specOf [(31,sh1.sp)],100000,19,dspecOf [],fun _=>none⟩
noncomputable def nmR:Norm U:=⟨[],[4],[],[],[],[],[]⟩
noncomputable def RR:Kont U El:=fun st=>normK nmR st (retFin [4] [])
noncomputable def nm1:Norm U:=⟨[],[],[],[],[],[],[]⟩
noncomputable def nm2:Norm U:=⟨[],[0,1,7,8],[],[],[],[],[]⟩
abbrev Y1:=R
abbrev Y2:=(List (List UInt8))→Int→Int→R
noncomputable def fr0 (l:List (List UInt8)):St U El:=⟨[(0,(.lst .str l)),(1,(.fn 31 [] []))],[]⟩
noncomputable def fr1:St U El:=⟨[],[]⟩
noncomputable def fr2 (s0:List (List UInt8)) (x7:Int) (x8:Int):St U El:=⟨[(0,(.lst .str s0)),(1,(.fn 31 [] [])),(7,(.int .i64 x7)),(8,(.int .i64 x8))],[]⟩
noncomputable def sh0 (l:List (List UInt8)) (k2:Y2):R :=
  k2 l (Int.ofNat (List.length l)) (0:Int)
noncomputable def sh1:R :=
  some ((.int .i64 (-1:Int)),[])
noncomputable def sh2 (s0:List (List UInt8)) (x7:Int) (x8:Int) (k1:Y1) (k2:Y2):R :=
  condB (ilt x8 x7) (chk (inb x8 (List.length s0)) (condB (longN (List.getD s0 (Int.toNat x8) d_str)) (some ((.int .i64 x8),[])) (k2 s0 x7 (IntKind.wrap .i64 (x8+(1:Int)))))) (k1)
noncomputable def it2 (Kb1:Kont U El) (n:Nat):Kont U El:=iter nm2 (fun st' K'=>exec X (cdp [1,0,1,0,0] bd) .d st' K' (Eblk 0 (cutK nm1 Kb1) (fun _ _=>none)) RR) n
noncomputable def ct1:Kont U El:=fun st=>exec X (cdp [1,1] bd) .d st RR (fun _ _=>none) RR
theorem P0 (l):exec X (cdp [] bd) (.seq none .d (.seq (some nm1) (.seq none .d (.block (.loop nm2 .d))) .d)) (fr0 l) RR (fun _ _=>none) RR=sh0 l (fun y0 y1 y2=>(hid (it2 (hid ct1) 100000)) (fr2 y0 y1 y2)):=by kernel_rfl
theorem P1:ct1 (fr1)=sh1:=by kernel_rfl
theorem P2 (s0 x7 x8) (Kb1 Kb2:Kont U El):exec X (cdp [1,0,1,0,0] bd) .d (fr2 s0 x7 x8) (cutK nm2 Kb2) (Eblk 0 (cutK nm1 Kb1) (fun _ _=>none)) RR=sh2 s0 x7 x8 (Kb1 (fr1)) (fun y0 y1 y2=>Kb2 (fr2 y0 y1 y2)):=by kernel_rfl
noncomputable def f1:R:=sh1
noncomputable def f2:Nat→Y2
  | 0=>fun _ _ _=>none
  | n+1=>fun s0 x7 x8=>sh2 s0 x7 x8 f1 (f2 n)
noncomputable def f0 (l:List (List UInt8)):R:=sh0 l (f2 100000)
theorem T1:(hid ct1) (fr1)=f1:=by
  refine (congrFun (hid_eq _) _).trans <| (P1).trans ?_
  show _=sh1
  rfl
theorem T2:∀ (n:Nat),∀ s0 x7 x8,it2 (hid ct1) n (fr2 s0 x7 x8)=f2 n s0 x7 x8:=by
  intro n
  induction n with
  | zero=>intros; rfl
  | succ n ih =>
    intro s0 x7 x8
    refine (P2 s0 x7 x8 (hid ct1) (it2 (hid ct1) n)).trans ?_
    show _=sh2 s0 x7 x8 f1 (f2 n)
    simp only [T1,ih]
theorem H2 (s0 x7 x8):hid (it2 (hid ct1) 100000) (fr2 s0 x7 x8)=f2 100000 s0 x7 x8:=(congrFun (hid_eq _) _).trans (T2 100000 s0 x7 x8)
theorem T0 (l):exec X bd (.seq none .d (.seq (some nm1) (.seq none .d (.block (.loop nm2 .d))) .d)) (fr0 l) RR (fun _ _=>none) RR=f0 l:=by
  refine (P0 l).trans ?_
  show _=sh0 l (f2 100000)
  simp only [H2]
theorem run (l):runFn X bd (.seq none .d (.seq (some nm1) (.seq none .d (.block (.loop nm2 .d))) .d)) nmR [4] [] [(.lst .str l),(.fn 31 [] [])]=f0 l:=T0 l
theorem f0_eq (l:List (List UInt8)) (h:(nle (List.length l) 90000)=true):f0 l=outI (findZ longN 0 l):=by
  have hl:=nleI h
  refine (grun_eq l (by omega) (fun n_ (_:Unit) i_=>f2 n_ l (Int.ofNat l.length) i_) _ (fun _=>outI (-1)) (fun n_ u_ i_ hi_ => ?_) (fun n_ u_ => ?_) 100000 0 () (by omega) (by omega)).trans (grun_find longN outI l 0)
  · show sh2 l (Int.ofNat l.length) i_ f1 (f2 n_) = _
    unfold sh2
    rw [iltT (by simp; omega),inbT hi_,toNat_nat,getD_lt hi_]
    rfl
  · show sh2 l (Int.ofNat l.length) (l.length : Int) f1 (f2 n_) = _
    unfold sh2
    rw [iltF (by simp)]
    rfl
theorem ok:CtxOk Tryd.prog X:=ctxOk tab (spC sh1.spOk spN) dpN
theorem okM:MOk Tryd.prog X:=fun g sp h=>by cases h
theorem spec (l:List (List UInt8)) (h:(nle (List.length l) 90000)=true):CallSpec Tryd.prog E 51 [(.lst .str l),(.fn 31 [] [])] (.int .i64 (findZ longN 0 l)) [] :=
  runFn_sound ok okM Tryd.call51 Tryd.func51 (by kernel_rfl) (by kernel_rfl) (by kernel_rfl) (by show 2≤19; decide) (by decide) (by rfl) ((run l).trans (f0_eq l h))
noncomputable def sp:Sp U El:=fun args k=>match args with
  | [.lst .str l,.fn 31 [] []]=>chk (nle (List.length l) 90000) (k (.int .i64 (findZ longN 0 l)) [])
  | _=>none
theorem spOk:SpOk Tryd.prog E 51 sp where
  det:=fun vs=>by
    unfold sp
    split
    · exact det_c _ _ _
    · exact ⟨none,fun _=>rfl⟩
  ok:=fun vs k r h=>by
    unfold sp at h
    split at h
    · obtain ⟨h1, h2⟩ := chk_some h
      exact ⟨_,_,spec _ h1,h2⟩
    · cases h
end sh1X
namespace sh1C
noncomputable def bd:Code:=(Tryd.f30.body).getD .skip
noncomputable def X:Ctx U El:=⟨E,tds,zeros,eqs,specOf [(51,sh1X.sp)],100000,9,dspecOf [],fun _=>none⟩
noncomputable def nmR:Norm U:=⟨[],[4],[],[],[],[],[]⟩
noncomputable def RR:Kont U El:=fun st=>normK nmR st (retFin [4] [])
noncomputable def fr0 (l:List (List UInt8)):St U El:=⟨[(0,(.lst .str l)),(1,(.fn 31 [] []))],[]⟩
noncomputable def sh0 (l:List (List UInt8)):R :=
  chk (nle (List.length l) 90000) (some ((.bool (ile (0:Int) (findZ longN 0 l))),[]))
theorem P0 (l):exec X (cdp [] bd) .d (fr0 l) RR (fun _ _=>none) RR=sh0 l:=by kernel_rfl
noncomputable def f0 (l:List (List UInt8)):R:=sh0 l
theorem T0 (l):exec X bd .d (fr0 l) RR (fun _ _=>none) RR=f0 l:=by
  refine (P0 l).trans ?_
  show _=sh0 l
  rfl
theorem run (l):runFn X bd .d nmR [4] [] [(.lst .str l),(.fn 31 [] [])]=f0 l:=T0 l
theorem f0_eq (l:List (List UInt8)) (h:(nle (List.length l) 90000)=true):f0 l=outB (List.any l longN):=by
  show chk _ (outB _)=_
  rw [h,chkT,findZ_any]
theorem ok:CtxOk Tryd.prog X:=ctxOk tab (spC sh1X.spOk spN) dpN
theorem okM:MOk Tryd.prog X:=fun g sp h=>by cases h
theorem spec (l:List (List UInt8)) (h:(nle (List.length l) 90000)=true):CallSpec Tryd.prog E 30 [(.lst .str l),(.fn 31 [] [])] (.bool (List.any l longN)) [] :=
  runFn_sound ok okM Tryd.call30 Tryd.func30 (by kernel_rfl) (by kernel_rfl) (by kernel_rfl) (by show 2≤9; decide) (by decide) (by rfl) ((run l).trans (f0_eq l h))
noncomputable def sp:Sp U El:=fun args k=>match args with
  | [.lst .str l,.fn 31 [] []]=>chk (nle (List.length l) 90000) (k (.bool (List.any l longN)) [])
  | _=>none
theorem spOk:SpOk Tryd.prog E 30 sp where
  det:=fun vs=>by
    unfold sp
    split
    · exact det_c _ _ _
    · exact ⟨none,fun _=>rfl⟩
  ok:=fun vs k r h=>by
    unfold sp at h
    split at h
    · obtain ⟨h1, h2⟩ := chk_some h
      exact ⟨_,_,spec _ h1,h2⟩
    · cases h
end sh1C
namespace short
noncomputable def bd:Code:=(Tryd.f9.body).getD .skip
noncomputable def X:Ctx U El:=⟨E,tds,zeros,eqs,specOf [(30,sh1C.sp)],100000,18,dspecOf [],fun _=>none⟩
noncomputable def nmR:Norm U:=⟨[],[4],[],[],[],[],[]⟩
noncomputable def RR:Kont U El:=fun st=>normK nmR st (retFin [4] [])
noncomputable def fr0 (ns:List (List UInt8)) (v:List Int):St U El:=⟨[(0,(.lst .str ns)),(1,(.lst .int v))],[]⟩
noncomputable def sh0 (ns:List (List UInt8)) (v:List Int):R :=
  condB (ile (Int.ofNat (List.length ns)) (30:Int)) (condB (ile (Int.ofNat (List.length v)) (30:Int)) (chk (nle (List.length ns) 90000) (some ((.bool (!(List.any ns longN))),[]))) (some ((.bool false),[]))) (some ((.bool false),[]))
theorem P0 (ns v):exec X (cdp [] bd) .d (fr0 ns v) RR (fun _ _=>none) RR=sh0 ns v:=by kernel_rfl
noncomputable def f0 (ns:List (List UInt8)) (v:List Int):R:=sh0 ns v
theorem T0 (ns v):exec X bd .d (fr0 ns v) RR (fun _ _=>none) RR=f0 ns v:=by
  refine (P0 ns v).trans ?_
  show _=sh0 ns v
  rfl
theorem run (ns v):runFn X bd .d nmR [4] [] [(.lst .str ns),(.lst .int v)]=f0 ns v:=T0 ns v
theorem f0_eq (ns:List (List UInt8)) (v:List Int):f0 ns v=outB (shortB ns v):=by
  show sh0 ns v=_
  unfold sh0 shortB
  by_cases h:Int.ofNat ns.length≤(30:Int)
  · rw [ileT h, nleT (show ns.length ≤ 90000 by simp at h; omega)]
    exact cAnd outB _ _
  · rw [show ile (Int.ofNat ns.length) 30 = false from ileF h]
    rfl
theorem ok:CtxOk Tryd.prog X:=ctxOk tab (spC sh1C.spOk spN) dpN
theorem okM:MOk Tryd.prog X:=fun g sp h=>by cases h
theorem spec (ns:List (List UInt8)) (v:List Int):CallSpec Tryd.prog E 9 [(.lst .str ns),(.lst .int v)] (.bool (shortB ns v)) [] :=
  runFn_sound ok okM Tryd.call9 Tryd.func9 (by kernel_rfl) (by kernel_rfl) (by kernel_rfl) (by show 2≤18; decide) (by decide) (by rfl) ((run ns v).trans (f0_eq ns v))
noncomputable def sp:Sp U El:=fun args k=>match args with
  | [.lst .str ns,.lst .int v]=>k (.bool (shortB ns v)) []
  | _=>none
theorem spOk:SpOk Tryd.prog E 9 sp where
  det:=fun vs=>by
    unfold sp
    split
    · exact ⟨some (_,_),fun _=>rfl⟩
    · exact ⟨none,fun _=>rfl⟩
  ok:=fun vs k r h=>by
    unfold sp at h
    split at h
    · exact ⟨_,_,spec _ _,h⟩
    · cases h
end short
noncomputable def eqL {α:Type} (q:α→α→Bool):List α→List α→Bool
  | [],[]=>true
  | x :: a,y :: b=>q x y&&eqL q a b
  | _,_=>false
noncomputable def eqLen {α:Type} (q:α→α→Bool) (a b:List α):Bool:=bif (Int.ofNat a.length) != (Int.ofNat b.length) then false else eqL q a b
theorem eqL_self {α:Type} {q:α→α→Bool} (hq:∀ x,q x x=true):∀ a,eqL q a a=true:=by
  intro a
  induction a with
  | nil=>rfl
  | cons x a ih=>simp [eqL,hq,ih]
theorem eqLen_self {α:Type} {q:α→α→Bool} (hq:∀ x,q x x=true) (a:List α):eqLen q a a=true:=by
  unfold eqLen; rw [eqL_self hq]; simp
theorem bneF {a b:Nat} (h:a=b):(Int.ofNat a != Int.ofNat b)=false:=by subst h; simp
theorem bneT {a b:Nat} (h:a≠b):(Int.ofNat a != Int.ofNat b)=true:=by simp; omega
theorem kq_eq (a b:List UInt8):kq_str a b=(a == b):=by rw [Bool.eq_iff_iff,kq_str_iff]; simp
theorem mput_new {m:List ((List UInt8)×Int)} {k:List UInt8} {v:Int} (h:mhas kq_str m k=false):mput kq_str m k v=m++[(k,v)]:=by
  induction m with
  | nil=>rfl
  | cons p m ih =>
    unfold mhas at h
    simp only [mfind] at h
    simp only [mput]
    cases e:kq_str k p.1 with
    | true=>rw [e] at h; cases h
    | false =>
      rw [e] at h
      rw [cond_false,ih h]
      rfl
theorem mhas_zip (k:List UInt8):∀ (a:List (List UInt8)) (b:List Int),a.length=b.length→mhas kq_str (List.zip a b) k=List.elem k a:=by
  intro a
  induction a with
  | nil=>intro b _; rfl
  | cons x a ih =>
    intro b h
    cases b with
    | nil=>cases h
    | cons y b =>
      have:=ih b (by simpa using h)
      unfold mhas at this ⊢
      simp only [List.zip_cons_cons,mfind]
      rw [kq_eq,List.elem_cons]
      cases k == x
      · simpa using this
      · rfl
theorem knows_all {ns:List (List UInt8)} {v:List Int} (h:ns.length=v.length) (w:List Cnd):List.all w (fun c=>mhas kq_str (List.zip ns v) c.cn)=List.all w (fun c=>List.elem c.cn ns):=by
  congr 1
  funext c
  exact mhas_zip _ _ _ h
theorem gvE_last {l:List Rule} {ns:List (List UInt8)} {v:List Int} (h1:(gvE l ns v == 0)=false) (h2:(gvE l ns v == 3)=false) (h3:(gvE l ns v == 10)=false):gvE l ns v=9:=by
  revert h1 h2 h3
  unfold gvE
  cases Nat.beq ns.length v.length<;>cases freshI ns 0 ns<;>cases List.all l (knowsR ns)<;>simp
theorem gv_split {Q:Type} (f:Int→Q) {l:List Rule} {ns:List (List UInt8)} {v:List Int} (h1:(gvE l ns v == 0)=false):condB (gvE l ns v == 3) (f 3) (condB (gvE l ns v == 10) (f 10) (f 9))=f (gvE l ns v):=by
  cases h2:gvE l ns v == 3 with
  | true=>rw [show gvE l ns v=3 by simpa using h2]; rfl
  | false =>
    cases h3:gvE l ns v == 10 with
    | true=>rw [show gvE l ns v=10 by simpa using h3]; rfl
    | false=>rw [gvE_last h1 h2 h3]; rfl
namespace ugivenO
noncomputable def bd:Code:=(Tryd.f33.body).getD .skip
noncomputable def X:Ctx U El:=⟨E,tds,zeros,eqs,specOf [],100000,71,dspecOf [],fun _=>none⟩
noncomputable def nmR:Norm U:=⟨[],[6,7],[],[(6,.str)],[],[],[]⟩
noncomputable def RR:Kont U El:=fun st=>normK nmR st (retM [6,7])
noncomputable def nm1:Norm U:=⟨[],[0,8],[24,1000000000],[],[],[],[]⟩
noncomputable def nm2:Norm U:=⟨[],[0,2,8,25,26,27],[24,1000000000],[],[],[],[]⟩
noncomputable def nm3:Norm U:=⟨[],[8],[24,1000000000],[],[],[],[]⟩
noncomputable def nm4:Norm U:=⟨[],[8,46,47,48],[24,1000000000],[],[],[],[]⟩
noncomputable def nm5:Norm U:=⟨[],[8,46,47,48],[24,1000000000],[],[],[],[]⟩
noncomputable def nm6:Norm U:=⟨[],[8,46,47,48,53,54,55],[24,1000000000],[],[],[],[]⟩
abbrev Y1:=(List ((List UInt8)×Int))→(List Rule)→R
abbrev Y2:=(List Int)→(List (List UInt8))→Int→Int→(List ((List UInt8)×Int))→(List Rule)→R
abbrev Y3:=(List ((List UInt8)×Int))→(List Rule)→R
abbrev Y4:=Int→Int→(List ((List UInt8)×Int))→(List Rule)→R
abbrev Y5:=Int→Int→(List ((List UInt8)×Int))→(List Rule)→R
abbrev Y6:=Int→Int→(List Cnd)→Int→Int→(List ((List UInt8)×Int))→(List Rule)→R
noncomputable def fr0 (ns:List (List UInt8)) (v:List Int) (l:List Rule):St U El:=⟨[(0,(.ful 1000000000)),(1,(.lst .str ns)),(2,(.lst .int v))],[(1000000000,(.rows .rule l))]⟩
noncomputable def fr1 (aA:List ((List UInt8)×Int)) (fA:List Rule):St U El:=⟨[(0,(.ful 1000000000)),(8,(.mp 24))],[(24,(.map .str .int aA)),(1000000000,(.rows .rule fA))]⟩
noncomputable def fr2 (bA:List Int) (kA:List (List UInt8)) (iA:Int) (gA:Int) (aA:List ((List UInt8)×Int)) (fA:List Rule):St U El:=⟨[(0,(.ful 1000000000)),(2,(.lst .int bA)),(8,(.mp 24)),(25,(.lst .str kA)),(26,(.int .i64 iA)),(27,(.int .i64 gA))],[(24,(.map .str .int aA)),(1000000000,(.rows .rule fA))]⟩
noncomputable def fr3 (aA:List ((List UInt8)×Int)) (fA:List Rule):St U El:=⟨[(8,(.mp 24))],[(24,(.map .str .int aA)),(1000000000,(.rows .rule fA))]⟩
noncomputable def fr4 (eA:Int) (dA:Int) (aA:List ((List UInt8)×Int)) (fA:List Rule):St U El:=⟨[(8,(.mp 24)),(46,(.ful 1000000000)),(47,(.int .i64 eA)),(48,(.int .i64 dA))],[(24,(.map .str .int aA)),(1000000000,(.rows .rule fA))]⟩
noncomputable def fr5 (eA:Int) (dA:Int) (aA:List ((List UInt8)×Int)) (fA:List Rule):St U El:=⟨[(8,(.mp 24)),(46,(.ful 1000000000)),(47,(.int .i64 eA)),(48,(.int .i64 dA))],[(24,(.map .str .int aA)),(1000000000,(.rows .rule fA))]⟩
noncomputable def fr6 (eA:Int) (dA:Int) (nA:List Cnd) (oA:Int) (mA:Int) (aA:List ((List UInt8)×Int)) (fA:List Rule):St U El:=⟨[(8,(.mp 24)),(46,(.ful 1000000000)),(47,(.int .i64 eA)),(48,(.int .i64 dA)),(53,(.lst .cnd nA)),(54,(.int .i64 oA)),(55,(.int .i64 mA))],[(24,(.map .str .int aA)),(1000000000,(.rows .rule fA))]⟩
noncomputable def sh0 (ns:List (List UInt8)) (v:List Int) (l:List Rule) (k2:Y2):R :=
  condB ((Int.ofNat (List.length ns)) != (Int.ofNat (List.length v))) (some ((.tup [.nilm,(.int .i64 (3:Int))]),[])) (k2 v ns (Int.ofNat (List.length ns)) (0:Int) ([]:List ((List UInt8)×Int)) l)
noncomputable def sh1 (aA:List ((List UInt8)×Int)) (fA:List Rule) (k4:Y4):R :=
  k4 (Int.ofNat (List.length fA)) (0:Int) aA fA
noncomputable def sh2 (bA:List Int) (kA:List (List UInt8)) (iA:Int) (gA:Int) (aA:List ((List UInt8)×Int)) (fA:List Rule) (k1:Y1) (k2:Y2):R :=
  condB (ilt gA iA) (chk (inb gA (List.length kA)) (condB (mhas kq_str aA (List.getD kA (Int.toNat gA) d_str)) (some ((.tup [.nilm,(.int .i64 (10:Int))]),[])) (chk (inb gA (List.length bA)) (k2 bA kA iA (IntKind.wrap .i64 (gA+(1:Int))) (mput kq_str aA (List.getD kA (Int.toNat gA) d_str) (List.getD bA (Int.toNat gA) d_int)) fA)))) (k1 aA fA)
noncomputable def sh3 (aA:List ((List UInt8)×Int)) (fA:List Rule):R :=
  some ((.tup [(.fmp .str .int aA),(.int .i64 (0:Int))]),[])
noncomputable def sh4 (eA:Int) (dA:Int) (aA:List ((List UInt8)×Int)) (fA:List Rule) (k3:Y3) (k6:Y6):R :=
  condB (ilt dA eA) (chk (inb dA (List.length fA)) (chk (nlt (Int.toNat dA) (List.length fA)) (k6 eA dA ((List.getD fA (Int.toNat dA) d_rule).rw) (Int.ofNat (List.length ((List.getD fA (Int.toNat dA) d_rule).rw))) (0:Int) aA fA))) (k3 aA fA)
noncomputable def sh5 (eA:Int) (dA:Int) (aA:List ((List UInt8)×Int)) (fA:List Rule) (k4:Y4):R :=
  k4 eA (IntKind.wrap .i64 (dA+(1:Int))) aA fA
noncomputable def sh6 (eA:Int) (dA:Int) (nA:List Cnd) (oA:Int) (mA:Int) (aA:List ((List UInt8)×Int)) (fA:List Rule) (k5:Y5) (k6:Y6):R :=
  condB (ilt mA oA) (chk (inb mA (List.length nA)) (condB (!(mhas kq_str aA ((List.getD nA (Int.toNat mA) d_cnd).cn))) (some ((.tup [.nilm,(.int .i64 (9:Int))]),[])) (k6 eA dA nA oA (IntKind.wrap .i64 (mA+(1:Int))) aA fA))) (k5 eA dA aA fA)
noncomputable def it2 (Kb1:Kont U El) (n:Nat):Kont U El:=iter nm2 (fun st' K'=>exec X (cdp [1,1,1,0,1,0,0] bd) .d st' K' (Eblk 0 (cutK nm1 Kb1) (fun _ _=>none)) RR) n
noncomputable def it4 (Kb3:Kont U El) (n:Nat):Kont U El:=iter nm4 (fun st' K'=>exec X (cdp [1,1,1,1,0,1,0,0] bd) (.seq none .d (.seq none .d (.seq (some nm5) (.block (.seq none .d (.seq none .d (.block (.loop nm6 .d))))) .d))) st' K' (Eblk 2 (cutK nm3 Kb3) (fun _ _=>none)) RR) n
noncomputable def it6 (Kb3 Kb5:Kont U El) (n:Nat):Kont U El:=iter nm6 (fun st' K'=>exec X (cdp [1,1,1,1,0,1,0,0,1,1,0,0,1,1,0,0] bd) .d st' K' (Eblk 4 (cutK nm5 Kb5) (Eblk 3 (cutK nm5 Kb5) (Eblk 2 (cutK nm3 Kb3) (fun _ _=>none)))) RR) n
noncomputable def ct1:Kont U El:=fun st=>exec X (cdp [1,1,1,1] bd) (.seq (some nm3) (.seq none .d (.block (.loop nm4 (.seq none .d (.seq none .d (.seq (some nm5) (.block (.seq none .d (.seq none .d (.block (.loop nm6 .d))))) .d)))))) .d) st RR (fun _ _=>none) RR
noncomputable def ct3:Kont U El:=fun st=>exec X (cdp [1,1,1,1,1] bd) .d st RR (fun _ _=>none) RR
noncomputable def ct5 (Kb3 Kb4:Kont U El):Kont U El:=fun st=>exec X (cdp [1,1,1,1,0,1,0,0,1,1,1] bd) .d st (cutK nm4 Kb4) (Eblk 2 (cutK nm3 Kb3) (fun _ _=>none)) RR
theorem P0 (ns v l):exec X (cdp [] bd) (.seq none .d (.seq none .d (.seq none .d (.seq (some nm1) (.seq none .d (.block (.loop nm2 .d))) (.seq (some nm3) (.seq none .d (.block (.loop nm4 (.seq none .d (.seq none .d (.seq (some nm5) (.block (.seq none .d (.seq none .d (.block (.loop nm6 .d))))) .d)))))) .d))))) (fr0 ns v l) RR (fun _ _=>none) RR=sh0 ns v l (fun y0 y1 y2 y3 y4 y5=>(hid (it2 (hid ct1) 100000)) (fr2 y0 y1 y2 y3 y4 y5)):=by kernel_rfl
theorem P1 (aA fA):ct1 (fr1 aA fA)=sh1 aA fA (fun y0 y1 y2 y3=>(hid (it4 (hid ct3) 100000)) (fr4 y0 y1 y2 y3)):=by kernel_rfl
theorem P2 (bA kA iA gA aA fA) (Kb1 Kb2:Kont U El):exec X (cdp [1,1,1,0,1,0,0] bd) .d (fr2 bA kA iA gA aA fA) (cutK nm2 Kb2) (Eblk 0 (cutK nm1 Kb1) (fun _ _=>none)) RR=sh2 bA kA iA gA aA fA (fun y0 y1=>Kb1 (fr1 y0 y1)) (fun y0 y1 y2 y3 y4 y5=>Kb2 (fr2 y0 y1 y2 y3 y4 y5)):=by kernel_rfl
theorem P3 (aA fA):ct3 (fr3 aA fA)=sh3 aA fA:=by kernel_rfl
theorem P4 (eA dA aA fA) (Kb3 Kb4:Kont U El):exec X (cdp [1,1,1,1,0,1,0,0] bd) (.seq none .d (.seq none .d (.seq (some nm5) (.block (.seq none .d (.seq none .d (.block (.loop nm6 .d))))) .d))) (fr4 eA dA aA fA) (cutK nm4 Kb4) (Eblk 2 (cutK nm3 Kb3) (fun _ _=>none)) RR=sh4 eA dA aA fA (fun y0 y1=>Kb3 (fr3 y0 y1)) (fun y0 y1 y2 y3 y4 y5 y6=>(hid (it6 Kb3 (hid (ct5 Kb3 Kb4)) 100000)) (fr6 y0 y1 y2 y3 y4 y5 y6)):=by kernel_rfl
theorem P5 (eA dA aA fA) (Kb3 Kb4:Kont U El):ct5 Kb3 Kb4 (fr5 eA dA aA fA)=sh5 eA dA aA fA (fun y0 y1 y2 y3=>Kb4 (fr4 y0 y1 y2 y3)):=by kernel_rfl
theorem P6 (eA dA nA oA mA aA fA) (Kb3 Kb5 Kb6:Kont U El):exec X (cdp [1,1,1,1,0,1,0,0,1,1,0,0,1,1,0,0] bd) .d (fr6 eA dA nA oA mA aA fA) (cutK nm6 Kb6) (Eblk 4 (cutK nm5 Kb5) (Eblk 3 (cutK nm5 Kb5) (Eblk 2 (cutK nm3 Kb3) (fun _ _=>none)))) RR=sh6 eA dA nA oA mA aA fA (fun y0 y1 y2 y3=>Kb5 (fr5 y0 y1 y2 y3)) (fun y0 y1 y2 y3 y4 y5 y6=>Kb6 (fr6 y0 y1 y2 y3 y4 y5 y6)):=by kernel_rfl
noncomputable def f3 (aA:List ((List UInt8)×Int)) (fA:List Rule):R:=sh3 aA fA
noncomputable def f5 (k4:Y4) (eA:Int) (dA:Int) (aA:List ((List UInt8)×Int)) (fA:List Rule):R:=sh5 eA dA aA fA k4
noncomputable def f6 (k4:Y4):Nat→Y6
  | 0=>fun _ _ _ _ _ _ _=>none
  | n+1=>fun eA dA nA oA mA aA fA=>sh6 eA dA nA oA mA aA fA (f5 k4) (f6 k4 n)
noncomputable def f4:Nat→Y4
  | 0=>fun _ _ _ _=>none
  | n+1=>fun eA dA aA fA=>sh4 eA dA aA fA f3 (f6 (f4 n) 100000)
noncomputable def f1 (aA:List ((List UInt8)×Int)) (fA:List Rule):R:=sh1 aA fA (f4 100000)
noncomputable def f2:Nat→Y2
  | 0=>fun _ _ _ _ _ _=>none
  | n+1=>fun bA kA iA gA aA fA=>sh2 bA kA iA gA aA fA f1 (f2 n)
noncomputable def f0 (ns:List (List UInt8)) (v:List Int) (l:List Rule):R:=sh0 ns v l (f2 100000)
theorem T3 (aA fA):(hid ct3) (fr3 aA fA)=f3 aA fA:=by
  refine (congrFun (hid_eq _) _).trans <| (P3 aA fA).trans ?_
  show _=sh3 aA fA
  rfl
theorem T5 (KL4:Kont U El) (k4:Y4) (h4:∀ eA dA aA fA,KL4 (fr4 eA dA aA fA)=k4 eA dA aA fA) (eA dA aA fA):(hid (ct5 (hid ct3) KL4)) (fr5 eA dA aA fA)=f5 k4 eA dA aA fA:=by
  refine (congrFun (hid_eq _) _).trans <| (P5 eA dA aA fA (hid ct3) KL4).trans ?_
  show _=sh5 eA dA aA fA k4
  simp only [h4]
theorem T6 (KL4:Kont U El) (k4:Y4) (h4:∀ eA dA aA fA,KL4 (fr4 eA dA aA fA)=k4 eA dA aA fA):∀ (n:Nat),∀ eA dA nA oA mA aA fA,it6 (hid ct3) (hid (ct5 (hid ct3) KL4)) n (fr6 eA dA nA oA mA aA fA)=f6 k4 n eA dA nA oA mA aA fA:=by
  intro n
  induction n with
  | zero=>intros; rfl
  | succ n ih =>
    intro eA dA nA oA mA aA fA
    refine (P6 eA dA nA oA mA aA fA (hid ct3) (hid (ct5 (hid ct3) KL4)) (it6 (hid ct3) (hid (ct5 (hid ct3) KL4)) n)).trans ?_
    show _=sh6 eA dA nA oA mA aA fA (f5 k4) (f6 k4 n)
    simp only [T5 KL4 k4 h4,ih]
theorem H6 (KL4:Kont U El) (k4:Y4) (h4:∀ eA dA aA fA,KL4 (fr4 eA dA aA fA)=k4 eA dA aA fA) (eA dA nA oA mA aA fA):hid (it6 (hid ct3) (hid (ct5 (hid ct3) KL4)) 100000) (fr6 eA dA nA oA mA aA fA)=f6 k4 100000 eA dA nA oA mA aA fA:=(congrFun (hid_eq _) _).trans (T6 KL4 k4 h4 100000 eA dA nA oA mA aA fA)
theorem T4:∀ (n:Nat),∀ eA dA aA fA,it4 (hid ct3) n (fr4 eA dA aA fA)=f4 n eA dA aA fA:=by
  intro n
  induction n with
  | zero=>intros; rfl
  | succ n ih =>
    intro eA dA aA fA
    refine (P4 eA dA aA fA (hid ct3) (it4 (hid ct3) n)).trans ?_
    show _=sh4 eA dA aA fA f3 (f6 (f4 n) 100000)
    simp only [T3,H6 (it4 (hid ct3) n) (f4 n) ih]
theorem H4 (eA dA aA fA):hid (it4 (hid ct3) 100000) (fr4 eA dA aA fA)=f4 100000 eA dA aA fA:=(congrFun (hid_eq _) _).trans (T4 100000 eA dA aA fA)
theorem T1 (aA fA):(hid ct1) (fr1 aA fA)=f1 aA fA:=by
  refine (congrFun (hid_eq _) _).trans <| (P1 aA fA).trans ?_
  show _=sh1 aA fA (f4 100000)
  simp only [H4]
theorem T2:∀ (n:Nat),∀ bA kA iA gA aA fA,it2 (hid ct1) n (fr2 bA kA iA gA aA fA)=f2 n bA kA iA gA aA fA:=by
  intro n
  induction n with
  | zero=>intros; rfl
  | succ n ih =>
    intro bA kA iA gA aA fA
    refine (P2 bA kA iA gA aA fA (hid ct1) (it2 (hid ct1) n)).trans ?_
    show _=sh2 bA kA iA gA aA fA f1 (f2 n)
    simp only [T1,ih]
theorem H2 (bA kA iA gA aA fA):hid (it2 (hid ct1) 100000) (fr2 bA kA iA gA aA fA)=f2 100000 bA kA iA gA aA fA:=(congrFun (hid_eq _) _).trans (T2 100000 bA kA iA gA aA fA)
theorem T0 (ns v l):exec X bd (.seq none .d (.seq none .d (.seq none .d (.seq (some nm1) (.seq none .d (.block (.loop nm2 .d))) (.seq (some nm3) (.seq none .d (.block (.loop nm4 (.seq none .d (.seq none .d (.seq (some nm5) (.block (.seq none .d (.seq none .d (.block (.loop nm6 .d))))) .d)))))) .d))))) (fr0 ns v l) RR (fun _ _=>none) RR=f0 ns v l:=by
  refine (P0 ns v l).trans ?_
  show _=sh0 ns v l (f2 100000)
  simp only [H2]
theorem run (ns v l):runM X bd (.seq none .d (.seq none .d (.seq none .d (.seq (some nm1) (.seq none .d (.block (.loop nm2 .d))) (.seq (some nm3) (.seq none .d (.block (.loop nm4 (.seq none .d (.seq none .d (.seq (some nm5) (.block (.seq none .d (.seq none .d (.block (.loop nm6 .d))))) .d)))))) .d))))) nmR [6,7] [(1000000000,(.rows .rule l))] [(.ful 1000000000),(.lst .str ns),(.lst .int v)]=f0 ns v l:=T0 ns v l
theorem loop6 (k4:Y4) (l:List Rule) (L i:Int) (w:List Cnd) (m:List ((List UInt8)×Int)) (hw:w.length≤90000):∀ (n j:Nat),w.length < n+j→j≤w.length→f6 k4 n L i w (Int.ofNat w.length) (j:Int) m l=bif List.all (w.drop j) (fun c=>mhas kq_str m c.cn) then f5 k4 L i m l else outGE 9:=by
  intro n
  induction n with
  | zero=>intro j h1 h2; omega
  | succ n ih =>
    intro j h1 h2
    show sh6 L i w (Int.ofNat w.length) (j:Int) m l (f5 k4) (f6 k4 n)=_
    unfold sh6
    by_cases hj:j < w.length
    · rw [iltT (by simp; omega), inbT hj, toNat_nat, getD_lt hj, wrapS j (by omega), ih (j + 1) (by omega) hj, drop_lt hj, List.all_cons]
      cases mhas kq_str m w[j].cn<;>rfl
    · have : j = w.length := by omega
      subst this
      rw [iltF (by simp),List.drop_length]
      rfl
theorem loop4 (l:List Rule) (m:List ((List UInt8)×Int)) (hl:l.length≤90000) (hw:∀ r∈l,r.rw.length≤90000):∀ (n i:Nat),l.length < n+i→i≤l.length→f4 n (Int.ofNat l.length) (i:Int) m l=bif List.all (l.drop i) (fun r=>List.all r.rw (fun c=>mhas kq_str m c.cn)) then outG m else outGE 9:=by
  intro n
  induction n with
  | zero=>intro i h1 h2; omega
  | succ n ih =>
    intro i h1 h2
    show sh4 (Int.ofNat l.length) (i:Int) m l f3 (f6 (f4 n) 100000)=_
    unfold sh4
    by_cases hi:i < l.length
    · have hr := hw _ (List.getElem_mem hi)
      have e:=loop6 (f4 n) l (Int.ofNat l.length) (i:Int) l[i].rw m hr 100000 0 (by omega) (by omega)
      rw [iltT (by simp; omega),inbT hi,toNat_nat,nltT hi,getD_lt hi,show ((0:Int))=((0:Nat):Int) from rfl,e,drop_lt hi,List.all_cons,List.drop_zero]
      have e2:f5 (f4 n) (Int.ofNat l.length) (i:Int) m l=f4 n (Int.ofNat l.length) (IntKind.wrap .i64 ((i:Int)+1)) m l:=rfl
      rw [e2,wrapS i (by omega),ih (i+1) (by omega) hi]
      cases List.all l[i].rw (fun c=>mhas kq_str m c.cn)<;>rfl
    · have : i = l.length := by omega
      subst this
      rw [iltF (by simp),List.drop_length]
      rfl
theorem loop (l : List Rule) (ns : List (List UInt8)) (v : List Int) (hl : l.length ≤ 90000) (hw : ∀ r ∈ l, r.rw.length ≤ 90000) (hn : ns.length ≤ 90000) (hlen : ns.length = v.length) : ∀ (n i : Nat), ns.length < n + i → i ≤ ns.length →
    f2 n v ns (Int.ofNat ns.length) (i:Int) (List.zip (ns.take i) (v.take i)) l=bif freshI ns i (ns.drop i) then (bif List.all l (knowsR ns) then outG (List.zip ns v) else outGE 9) else outGE 10:=by
  intro n
  induction n with
  | zero=>intro i h1 h2; omega
  | succ n ih =>
    intro i h1 h2
    show sh2 v ns (Int.ofNat ns.length) (i:Int) (List.zip (ns.take i) (v.take i)) l f1 (f2 n)=_
    unfold sh2
    by_cases hi:i < ns.length
    · have hv : i < v.length := by omega
      have h3:mhas kq_str (List.zip (ns.take i) (v.take i)) ns[i]=List.elem ns[i] (ns.take i):=mhas_zip _ _ _ (by simp; omega)
      rw [iltT (by simp; omega),inbT hi,inbT hv,toNat_nat,getD_lt hi,getD_lt hv,h3,wrapS i (by omega),drop_lt hi]
      simp only [freshI,condT,chkT]
      cases h4:List.elem ns[i] (ns.take i) with
      | true=>rfl
      | false =>
        rw [mput_new (by rw [h3]; exact h4)]
        have h5:List.zip (ns.take i) (v.take i)++[(ns[i],v[i])]=List.zip (ns.take (i+1)) (v.take (i+1)):=by
          rw [take_lt hi,take_lt hv,List.zip_append (by simp; omega)]
          rfl
        rw [h5]
        exact ih (i+1) (by omega) hi
    · have : i = ns.length := by omega
      subst this
      rw [iltF (by simp),List.take_length,List.take_of_length_le (by omega),List.drop_length]
      show f4 100000 (Int.ofNat l.length) ((0:Nat):Int) (List.zip ns v) l=bif List.all l (knowsR ns) then outG (List.zip ns v) else outGE 9
      rw [loop4 l _ hl hw 100000 0 (by omega) (by omega),List.drop_zero]
      congr 2
      funext r
      exact knows_all hlen _
theorem f0_all (ns:List (List UInt8)) (v:List Int) (l:List Rule) (h:(okR l&&nle (List.length ns) 90000)=true):f0 ns v l=bif gvE l ns v == 0 then outG (List.zip ns v) else outGE (gvE l ns v):=by
  simp only [Bool.and_eq_true] at h
  obtain ⟨h1,h2⟩:=h
  simp only [okR,Bool.and_eq_true] at h1
  have hn:=nleI h2
  show sh0 ns v l (f2 100000)=_
  unfold sh0 gvE
  by_cases e:ns.length=v.length
  · have el := loop l ns v (nleI h1.1) (fun r hr => nleI (List.all_eq_true.1 h1.2 r hr)) hn e 100000 0 (by omega) (by omega)
    rw [bneF e,e,Nat.beq_refl]
    rw [e] at el
    refine el.trans ?_
    rw [List.drop_zero]
    cases freshI ns 0 ns with
    | false=>rfl
    | true=>cases List.all l (knowsR ns)<;>rfl
  · rw [bneT e, show Nat.beq ns.length v.length = false from Bool.eq_false_iff.2 fun h => e (Nat.eq_of_beq_eq_true h)]
    rfl
theorem f0_eq1 (ns:List (List UInt8)) (v:List Int) (l:List Rule) (h:(okR l&&nle (List.length ns) 90000)=true) (hc:(gvE l ns v == 0)=true):f0 ns v l=outG (List.zip ns v):=by rw [f0_all ns v l h,hc]; rfl
theorem f0_ne (ns:List (List UInt8)) (v:List Int) (l:List Rule) (h:(okR l&&nle (List.length ns) 90000)=true) (hc:(gvE l ns v == 0)=false) {e:Int} (he:gvE l ns v=e):f0 ns v l=outGE e:=by rw [f0_all ns v l h,hc,← he]; rfl
theorem f0_eq2 (ns:List (List UInt8)) (v:List Int) (l:List Rule) (h:(okR l&&nle (List.length ns) 90000)=true) (hc:(gvE l ns v == 0)=false) (rA:(gvE l ns v == 3)=true):f0 ns v l=outGE 3:=f0_ne ns v l h hc (by simpa using rA)
theorem f0_eq3 (ns:List (List UInt8)) (v:List Int) (l:List Rule) (h:(okR l&&nle (List.length ns) 90000)=true) (hc:(gvE l ns v == 0)=false) (rA:(gvE l ns v == 3)=false) (vA:(gvE l ns v == 10)=true):f0 ns v l=outGE 10:=f0_ne ns v l h hc (by simpa using vA)
theorem f0_eq4 (ns:List (List UInt8)) (v:List Int) (l:List Rule) (h:(okR l&&nle (List.length ns) 90000)=true) (hc:(gvE l ns v == 0)=false) (rA:(gvE l ns v == 3)=false) (vA:(gvE l ns v == 10)=false):f0 ns v l=outGE 9:=f0_ne ns v l h hc (gvE_last hc rA vA)
theorem ok:CtxOk Tryd.prog X:=ctxOk tab spN dpN
theorem okM:MOk Tryd.prog X:=fun g sp h=>by cases h
theorem spec1 (ns:List (List UInt8)) (v:List Int) (l:List Rule) (h:((okR l&&nle (List.length ns) 90000))=true) (hc:(gvE l ns v == 0)=true):MCall Tryd.prog E 33 [(.ful 1000000000),(.lst .str ns),(.lst .int v)] [(1000000000,(.rows .rule l))] (.tup [(.fmp .str .int (List.zip ns v)),(.int .i64 (0:Int))]) [] :=
  runM_sound ok okM Tryd.func33 (by kernel_rfl) (by kernel_rfl) (by kernel_rfl) (by show 3≤71; decide) ((run ns v l).trans (f0_eq1 ns v l h hc))
theorem spec2 (ns:List (List UInt8)) (v:List Int) (l:List Rule) (h:((okR l&&nle (List.length ns) 90000))=true) (hc:(gvE l ns v == 0)=false) (rA:(gvE l ns v == 3)=true):MCall Tryd.prog E 33 [(.ful 1000000000),(.lst .str ns),(.lst .int v)] [(1000000000,(.rows .rule l))] (.tup [.nilm,(.int .i64 (3:Int))]) [] :=
  runM_sound ok okM Tryd.func33 (by kernel_rfl) (by kernel_rfl) (by kernel_rfl) (by show 3≤71; decide) ((run ns v l).trans (f0_eq2 ns v l h hc rA))
theorem spec3 (ns:List (List UInt8)) (v:List Int) (l:List Rule) (h:((okR l&&nle (List.length ns) 90000))=true) (hc:(gvE l ns v == 0)=false) (rA:(gvE l ns v == 3)=false) (vA:(gvE l ns v == 10)=true):MCall Tryd.prog E 33 [(.ful 1000000000),(.lst .str ns),(.lst .int v)] [(1000000000,(.rows .rule l))] (.tup [.nilm,(.int .i64 (10:Int))]) [] :=
  runM_sound ok okM Tryd.func33 (by kernel_rfl) (by kernel_rfl) (by kernel_rfl) (by show 3≤71; decide) ((run ns v l).trans (f0_eq3 ns v l h hc rA vA))
theorem spec4 (ns:List (List UInt8)) (v:List Int) (l:List Rule) (h:((okR l&&nle (List.length ns) 90000))=true) (hc:(gvE l ns v == 0)=false) (rA:(gvE l ns v == 3)=false) (vA:(gvE l ns v == 10)=false):MCall Tryd.prog E 33 [(.ful 1000000000),(.lst .str ns),(.lst .int v)] [(1000000000,(.rows .rule l))] (.tup [.nilm,(.int .i64 (9:Int))]) [] :=
  runM_sound ok okM Tryd.func33 (by kernel_rfl) (by kernel_rfl) (by kernel_rfl) (by show 3≤71; decide) ((run ns v l).trans (f0_eq4 ns v l h hc rA vA))
noncomputable def sp:MSp U El:=fun args hs k=>match args,hs with
  | [.ful q0,.lst .str ns,.lst .int v],[(q1,.rows .rule l)]=>chk (Nat.beq q0 1000000000&&(Nat.beq q1 1000000000&&true)) (chk ((okR l&&nle (List.length ns) 90000)) (condB (gvE l ns v == 0) (k (.tup [(.fmp .str .int (List.zip ns v)),(.int .i64 (0:Int))]) []) (condB (gvE l ns v == 3) (k (.tup [.nilm,(.int .i64 (3:Int))]) []) (condB (gvE l ns v == 10) (k (.tup [.nilm,(.int .i64 (10:Int))]) []) (k (.tup [.nilm,(.int .i64 (9:Int))]) [])))))
  | _,_=>none
theorem spOk : MSpOk Tryd.prog E 33 sp := ⟨Tryd.call33, fun args hs k r h => by
  unfold sp at h
  split at h
  · obtain ⟨hq, hA⟩ := chk_some h
    clear h
    simp only [Bool.and_eq_true] at hq
    obtain ⟨e0,e1,_⟩:=hq
    cases Nat.eq_of_beq_eq_true e0
    cases Nat.eq_of_beq_eq_true e1
    obtain ⟨h1,hB⟩:=chk_some hA
    rcases condB_some hB with ⟨h2,h⟩ | ⟨h2,h⟩
    · exact ⟨_,_,spec1 _ _ _ h1 h2,h⟩
    · skip
      rcases condB_some h with ⟨h3,h⟩ | ⟨h3,h⟩
      · exact ⟨_,_,spec2 _ _ _ h1 h2 h3,h⟩
      · skip
        rcases condB_some h with ⟨h4,h⟩ | ⟨h4,h⟩
        · exact ⟨_,_,spec3 _ _ _ h1 h2 h3 h4,h⟩
        · exact ⟨_,_,spec4 _ _ _ h1 h2 h3 h4,h⟩
  · cases h⟩
end ugivenO
namespace uh1
noncomputable def bd:Code:=(Tryd.f53.body).getD .skip
noncomputable def X:Ctx U El:=⟨E,tds,zeros,eqs,specOf [],100000,14,dspecOf [],fun _=>none⟩
noncomputable def nmR:Norm U:=⟨[],[3],[],[],[],[],[]⟩
noncomputable def RR:Kont U El:=fun st=>normK nmR st (retFin [3] [])
noncomputable def fr0 (x:Cnd) (am:List ((List UInt8)×Int)):St U El:=⟨[(0,(.agg [(.str x.cn),(.bool x.cb),(.int .i64 x.cl)])),(1,(.pcs [(.fmp .str .int am)] 0))],[]⟩
noncomputable def sh0 (x:Cnd) (am:List ((List UInt8)×Int)):R :=
  some ((.bool ((ile x.cl (mgetD kq_str am x.cn d_int)) == x.cb)),[])
theorem P0 (x am):exec X (cdp [] bd) .d (fr0 x am) RR (fun _ _=>none) RR=sh0 x am:=by kernel_rfl
noncomputable def f0 (x:Cnd) (am:List ((List UInt8)×Int)):R:=sh0 x am
theorem T0 (x am):exec X bd .d (fr0 x am) RR (fun _ _=>none) RR=f0 x am:=by
  refine (P0 x am).trans ?_
  show _=sh0 x am
  rfl
theorem run (x am):runFn X bd .d nmR [3] [] [(.agg [(.str x.cn),(.bool x.cb),(.int .i64 x.cl)]),(.pcs [(.fmp .str .int am)] 0)]=f0 x am:=T0 x am
theorem f0_eq (x:Cnd) (m:List ((List UInt8)×Int)):f0 x m=outB (failsM m x):=rfl
theorem ok:CtxOk Tryd.prog X:=ctxOk tab spN dpN
theorem okM:MOk Tryd.prog X:=fun g sp h=>by cases h
theorem spec (x:Cnd) (am:List ((List UInt8)×Int)):CallSpec Tryd.prog E 53 [(.agg [(.str x.cn),(.bool x.cb),(.int .i64 x.cl)]),(.pcs [(.fmp .str .int am)] 0)] (.bool ((failsM am) x)) [] :=
  runFn_sound ok okM Tryd.call53 Tryd.func53 (by kernel_rfl) (by kernel_rfl) (by kernel_rfl) (by show 2≤14; decide) (by decide) (by rfl) ((run x am).trans (f0_eq x am))
noncomputable def sp:Sp U El:=fun args k=>match args with
  | [.agg [.str x_cn,.bool x_cb,.int .i64 x_cl],.pcs [.fmp .str .int am] 0]=>k (.bool ((failsM am) (⟨x_cn,x_cb,x_cl⟩:Cnd))) []
  | _=>none
theorem spOk:SpOk Tryd.prog E 53 sp where
  det:=fun vs=>by
    unfold sp
    split
    · exact ⟨some (_,_),fun _=>rfl⟩
    · exact ⟨none,fun _=>rfl⟩
  ok:=fun vs k r h=>by
    unfold sp at h
    split at h
    · exact ⟨_,_,spec ⟨_,_,_⟩ _,h⟩
    · cases h
end uh1
namespace uh1X
noncomputable def bd:Code:=(Tryd.f50.body).getD .skip
noncomputable def X:Ctx U El:=⟨E,tds,zeros,eqs,specOf [(53,uh1.sp)],100000,19,dspecOf [],fun _=>none⟩
noncomputable def nmR:Norm U:=⟨[],[4],[],[],[],[],[]⟩
noncomputable def RR:Kont U El:=fun st=>normK nmR st (retFin [4] [])
noncomputable def nm1:Norm U:=⟨[],[],[],[],[],[],[]⟩
noncomputable def nm2:Norm U:=⟨[],[0,1,7,8],[],[],[],[],[]⟩
abbrev Y1:=R
abbrev Y2:=(List Cnd)→(List ((List UInt8)×Int))→Int→Int→R
noncomputable def fr0 (l:List Cnd) (am:List ((List UInt8)×Int)):St U El:=⟨[(0,(.lst .cnd l)),(1,(.fn 53 [] [(.pcs [(.fmp .str .int am)] 0)]))],[]⟩
noncomputable def fr1:St U El:=⟨[],[]⟩
noncomputable def fr2 (s0:List Cnd) (f1c_0:List ((List UInt8)×Int)) (x7:Int) (x8:Int):St U El:=⟨[(0,(.lst .cnd s0)),(1,(.fn 53 [] [(.pcs [(.fmp .str .int f1c_0)] 0)])),(7,(.int .i64 x7)),(8,(.int .i64 x8))],[]⟩
noncomputable def sh0 (l:List Cnd) (am:List ((List UInt8)×Int)) (k2:Y2):R :=
  k2 l am (Int.ofNat (List.length l)) (0:Int)
noncomputable def sh1:R :=
  some ((.int .i64 (-1:Int)),[])
noncomputable def sh2 (s0:List Cnd) (f1c_0:List ((List UInt8)×Int)) (x7:Int) (x8:Int) (k1:Y1) (k2:Y2):R :=
  condB (ilt x8 x7) (chk (inb x8 (List.length s0)) (condB ((failsM f1c_0) (List.getD s0 (Int.toNat x8) d_cnd)) (some ((.int .i64 x8),[])) (k2 s0 f1c_0 x7 (IntKind.wrap .i64 (x8+(1:Int)))))) (k1)
noncomputable def it2 (Kb1:Kont U El) (n:Nat):Kont U El:=iter nm2 (fun st' K'=>exec X (cdp [1,0,1,0,0] bd) .d st' K' (Eblk 0 (cutK nm1 Kb1) (fun _ _=>none)) RR) n
noncomputable def ct1:Kont U El:=fun st=>exec X (cdp [1,1] bd) .d st RR (fun _ _=>none) RR
theorem P0 (l am):exec X (cdp [] bd) (.seq none .d (.seq (some nm1) (.seq none .d (.block (.loop nm2 .d))) .d)) (fr0 l am) RR (fun _ _=>none) RR=sh0 l am (fun y0 y1 y2 y3=>(hid (it2 (hid ct1) 100000)) (fr2 y0 y1 y2 y3)):=by kernel_rfl
theorem P1:ct1 (fr1)=sh1:=by kernel_rfl
theorem P2 (s0 f1c_0 x7 x8) (Kb1 Kb2:Kont U El):exec X (cdp [1,0,1,0,0] bd) .d (fr2 s0 f1c_0 x7 x8) (cutK nm2 Kb2) (Eblk 0 (cutK nm1 Kb1) (fun _ _=>none)) RR=sh2 s0 f1c_0 x7 x8 (Kb1 (fr1)) (fun y0 y1 y2 y3=>Kb2 (fr2 y0 y1 y2 y3)):=by kernel_rfl
noncomputable def f1:R:=sh1
noncomputable def f2:Nat→Y2
  | 0=>fun _ _ _ _=>none
  | n+1=>fun s0 f1c_0 x7 x8=>sh2 s0 f1c_0 x7 x8 f1 (f2 n)
noncomputable def f0 (l:List Cnd) (am:List ((List UInt8)×Int)):R:=sh0 l am (f2 100000)
theorem T1:(hid ct1) (fr1)=f1:=by
  refine (congrFun (hid_eq _) _).trans <| (P1).trans ?_
  show _=sh1
  rfl
theorem T2:∀ (n:Nat),∀ s0 f1c_0 x7 x8,it2 (hid ct1) n (fr2 s0 f1c_0 x7 x8)=f2 n s0 f1c_0 x7 x8:=by
  intro n
  induction n with
  | zero=>intros; rfl
  | succ n ih =>
    intro s0 f1c_0 x7 x8
    refine (P2 s0 f1c_0 x7 x8 (hid ct1) (it2 (hid ct1) n)).trans ?_
    show _=sh2 s0 f1c_0 x7 x8 f1 (f2 n)
    simp only [T1,ih]
theorem H2 (s0 f1c_0 x7 x8):hid (it2 (hid ct1) 100000) (fr2 s0 f1c_0 x7 x8)=f2 100000 s0 f1c_0 x7 x8:=(congrFun (hid_eq _) _).trans (T2 100000 s0 f1c_0 x7 x8)
theorem T0 (l am):exec X bd (.seq none .d (.seq (some nm1) (.seq none .d (.block (.loop nm2 .d))) .d)) (fr0 l am) RR (fun _ _=>none) RR=f0 l am:=by
  refine (P0 l am).trans ?_
  show _=sh0 l am (f2 100000)
  simp only [H2]
theorem run (l am):runFn X bd (.seq none .d (.seq (some nm1) (.seq none .d (.block (.loop nm2 .d))) .d)) nmR [4] [] [(.lst .cnd l),(.fn 53 [] [(.pcs [(.fmp .str .int am)] 0)])]=f0 l am:=T0 l am
theorem f0_eq (l:List Cnd) (am:List ((List UInt8)×Int)) (h:(nle (List.length l) 90000)=true):f0 l am=outI (findZ (failsM am) 0 l):=by
  have hl:=nleI h
  refine (grun_eq l (by omega) (fun n_ (_:Unit) i_=>f2 n_ l am (Int.ofNat l.length) i_) _ (fun _=>outI (-1)) (fun n_ u_ i_ hi_ => ?_) (fun n_ u_ => ?_) 100000 0 () (by omega) (by omega)).trans (grun_find (failsM am) outI l 0)
  · show sh2 l am (Int.ofNat l.length) i_ f1 (f2 n_) = _
    unfold sh2
    rw [iltT (by simp; omega),inbT hi_,toNat_nat,getD_lt hi_]
    rfl
  · show sh2 l am (Int.ofNat l.length) (l.length : Int) f1 (f2 n_) = _
    unfold sh2
    rw [iltF (by simp)]
    rfl
theorem ok:CtxOk Tryd.prog X:=ctxOk tab (spC uh1.spOk spN) dpN
theorem okM:MOk Tryd.prog X:=fun g sp h=>by cases h
theorem spec (l:List Cnd) (am:List ((List UInt8)×Int)) (h:(nle (List.length l) 90000)=true):CallSpec Tryd.prog E 50 [(.lst .cnd l),(.fn 53 [] [(.pcs [(.fmp .str .int am)] 0)])] (.int .i64 (findZ (failsM am) 0 l)) [] :=
  runFn_sound ok okM Tryd.call50 Tryd.func50 (by kernel_rfl) (by kernel_rfl) (by kernel_rfl) (by show 2≤19; decide) (by decide) (by rfl) ((run l am).trans (f0_eq l am h))
noncomputable def sp:Sp U El:=fun args k=>match args with
  | [.lst .cnd l,.fn 53 [] [.pcs [.fmp .str .int am] 0]]=>chk (nle (List.length l) 90000) (k (.int .i64 (findZ (failsM am) 0 l)) [])
  | _=>none
theorem spOk:SpOk Tryd.prog E 50 sp where
  det:=fun vs=>by
    unfold sp
    split
    · exact det_c _ _ _
    · exact ⟨none,fun _=>rfl⟩
  ok:=fun vs k r h=>by
    unfold sp at h
    split at h
    · obtain ⟨h1, h2⟩ := chk_some h
      exact ⟨_,_,spec _ _ h1,h2⟩
    · cases h
end uh1X
namespace uh1C
noncomputable def bd:Code:=(Tryd.f28.body).getD .skip
noncomputable def X:Ctx U El:=⟨E,tds,zeros,eqs,specOf [(50,uh1X.sp)],100000,9,dspecOf [],fun _=>none⟩
noncomputable def nmR:Norm U:=⟨[],[4],[],[],[],[],[]⟩
noncomputable def RR:Kont U El:=fun st=>normK nmR st (retFin [4] [])
noncomputable def fr0 (l:List Cnd) (am:List ((List UInt8)×Int)):St U El:=⟨[(0,(.lst .cnd l)),(1,(.fn 53 [] [(.pcs [(.fmp .str .int am)] 0)]))],[]⟩
noncomputable def sh0 (l:List Cnd) (am:List ((List UInt8)×Int)):R :=
  chk (nle (List.length l) 90000) (some ((.bool (ile (0:Int) (findZ (failsM am) 0 l))),[]))
theorem P0 (l am):exec X (cdp [] bd) .d (fr0 l am) RR (fun _ _=>none) RR=sh0 l am:=by kernel_rfl
noncomputable def f0 (l:List Cnd) (am:List ((List UInt8)×Int)):R:=sh0 l am
theorem T0 (l am):exec X bd .d (fr0 l am) RR (fun _ _=>none) RR=f0 l am:=by
  refine (P0 l am).trans ?_
  show _=sh0 l am
  rfl
theorem run (l am):runFn X bd .d nmR [4] [] [(.lst .cnd l),(.fn 53 [] [(.pcs [(.fmp .str .int am)] 0)])]=f0 l am:=T0 l am
theorem f0_eq (l:List Cnd) (am:List ((List UInt8)×Int)) (h:(nle (List.length l) 90000)=true):f0 l am=outB (List.any l (failsM am)):=by
  show chk _ (outB _)=_
  rw [h,chkT,findZ_any]
theorem ok:CtxOk Tryd.prog X:=ctxOk tab (spC uh1X.spOk spN) dpN
theorem okM:MOk Tryd.prog X:=fun g sp h=>by cases h
theorem spec (l:List Cnd) (am:List ((List UInt8)×Int)) (h:(nle (List.length l) 90000)=true):CallSpec Tryd.prog E 28 [(.lst .cnd l),(.fn 53 [] [(.pcs [(.fmp .str .int am)] 0)])] (.bool (List.any l (failsM am))) [] :=
  runFn_sound ok okM Tryd.call28 Tryd.func28 (by kernel_rfl) (by kernel_rfl) (by kernel_rfl) (by show 2≤9; decide) (by decide) (by rfl) ((run l am).trans (f0_eq l am h))
noncomputable def sp:Sp U El:=fun args k=>match args with
  | [.lst .cnd l,.fn 53 [] [.pcs [.fmp .str .int am] 0]]=>chk (nle (List.length l) 90000) (k (.bool (List.any l (failsM am))) [])
  | _=>none
theorem spOk:SpOk Tryd.prog E 28 sp where
  det:=fun vs=>by
    unfold sp
    split
    · exact det_c _ _ _
    · exact ⟨none,fun _=>rfl⟩
  ok:=fun vs k r h=>by
    unfold sp at h
    split at h
    · obtain ⟨h1, h2⟩ := chk_some h
      exact ⟨_,_,spec _ _ h1,h2⟩
    · cases h
end uh1C
namespace uholds
noncomputable def bd:Code:=(Tryd.f34.body).getD .skip
noncomputable def X:Ctx U El:=⟨E,tds,zeros,eqs,specOf [(28,uh1C.sp)],100000,10,dspecOf [],fun _=>none⟩
noncomputable def nmR:Norm U:=⟨[],[4],[],[],[],[],[]⟩
noncomputable def RR:Kont U El:=fun st=>normK nmR st (retFin [4] [])
noncomputable def fr0 (r:Rule) (am:List ((List UInt8)×Int)):St U El:=⟨[(0,(.agg [(.str r.rn),(.lst .cnd r.rw),(.str r.rl),(.int .i64 r.rs)])),(1,(.fmp .str .int am))],[]⟩
noncomputable def sh0 (r:Rule) (am:List ((List UInt8)×Int)):R :=
  chk (nle (List.length r.rw) 90000) (some ((.bool (!(List.any r.rw (failsM am)))),[]))
theorem P0 (r am):exec X (cdp [] bd) .d (fr0 r am) RR (fun _ _=>none) RR=sh0 r am:=by kernel_rfl
noncomputable def f0 (r:Rule) (am:List ((List UInt8)×Int)):R:=sh0 r am
theorem T0 (r am):exec X bd .d (fr0 r am) RR (fun _ _=>none) RR=f0 r am:=by
  refine (P0 r am).trans ?_
  show _=sh0 r am
  rfl
theorem run (r am):runFn X bd .d nmR [4] [] [(.agg [(.str r.rn),(.lst .cnd r.rw),(.str r.rl),(.int .i64 r.rs)]),(.fmp .str .int am)]=f0 r am:=T0 r am
theorem f0_eq (r:Rule) (m:List ((List UInt8)×Int)) (h:(nle (List.length (Rule.rw r)) 90000)=true):f0 r m=outB (!(List.any (Rule.rw r) (failsM m))):=by
  show sh0 r m=_
  unfold sh0
  rw [h]
  rfl
theorem ok:CtxOk Tryd.prog X:=ctxOk tab (spC uh1C.spOk spN) dpN
theorem okM:MOk Tryd.prog X:=fun g sp h=>by cases h
theorem spec (r:Rule) (am:List ((List UInt8)×Int)) (h:(nle (List.length (Rule.rw r)) 90000)=true):CallSpec Tryd.prog E 34 [(.agg [(.str r.rn),(.lst .cnd r.rw),(.str r.rl),(.int .i64 r.rs)]),(.fmp .str .int am)] (.bool (!(List.any (Rule.rw r) (failsM am)))) [] :=
  runFn_sound ok okM Tryd.call34 Tryd.func34 (by kernel_rfl) (by kernel_rfl) (by kernel_rfl) (by show 2≤10; decide) (by decide) (by rfl) ((run r am).trans (f0_eq r am h))
noncomputable def sp:Sp U El:=fun args k=>match args with
  | [.agg [.str r_rn,.lst .cnd r_rw,.str r_rl,.int .i64 r_rs],.fmp .str .int am]=>chk (nle (List.length (Rule.rw (⟨r_rn,r_rw,r_rl,r_rs⟩:Rule))) 90000) (k (.bool (!(List.any (Rule.rw (⟨r_rn,r_rw,r_rl,r_rs⟩:Rule)) (failsM am)))) [])
  | _=>none
theorem spOk:SpOk Tryd.prog E 34 sp where
  det:=fun vs=>by
    unfold sp
    split
    · exact det_c _ _ _
    · exact ⟨none,fun _=>rfl⟩
  ok:=fun vs k r h=>by
    unfold sp at h
    split at h
    · obtain ⟨h1, h2⟩ := chk_some h
      exact ⟨_,_,spec ⟨_,_,_,_⟩ _ h1,h2⟩
    · cases h
end uholds
namespace uHolds
noncomputable def bd:Code:=(Tryd.f11.body).getD .skip
noncomputable def X:Ctx U El:=⟨E,tds,zeros,eqs,specOf [(32,valid1.sp),(34,uholds.sp)],100000,27,dspecOf [],mspecOf [(33,(mcSp ugivenO.sp))]⟩
noncomputable def nmR:Norm U:=⟨[],[6,7],[],[],[],[],[]⟩
noncomputable def RR:Kont U El:=fun st=>normK nmR st (retFin [6,7] [])
noncomputable def fr0 (r:Rule) (ns:List (List UInt8)) (v:List Int):St U El:=⟨[(0,(.agg [(.str r.rn),(.lst .cnd r.rw),(.str r.rl),(.int .i64 r.rs)])),(1,(.lst .str ns)),(2,(.lst .int v))],[]⟩
noncomputable def sh0 (r:Rule) (ns:List (List UInt8)) (v:List Int):R :=
  condB (!(ruleB r)) (some ((.tup [(.bool false),(.int .i64 (1:Int))]),[])) (chk ((okR ([r]:List Rule)&&nle (List.length ns) 90000)) (condB (gvE ([r]:List Rule) ns v == 0) (chk (nle (List.length (Rule.rw r)) 90000) (some ((.tup [(.bool (!(List.any (Rule.rw r) (failsM (List.zip ns v))))),(.int .i64 (0:Int))]),[]))) (condB (gvE ([r]:List Rule) ns v == 3) (some ((.tup [(.bool false),(.int .i64 (3:Int))]),[])) (condB (gvE ([r]:List Rule) ns v == 10) (some ((.tup [(.bool false),(.int .i64 (10:Int))]),[])) (some ((.tup [(.bool false),(.int .i64 (9:Int))]),[]))))))
theorem P0 (r ns v):exec X (cdp [] bd) .d (fr0 r ns v) RR (fun _ _=>none) RR=sh0 r ns v:=by kernel_rfl
noncomputable def f0 (r:Rule) (ns:List (List UInt8)) (v:List Int):R:=sh0 r ns v
theorem T0 (r ns v):exec X bd .d (fr0 r ns v) RR (fun _ _=>none) RR=f0 r ns v:=by
  refine (P0 r ns v).trans ?_
  show _=sh0 r ns v
  rfl
theorem run (r ns v):runFn X bd .d nmR [6,7] [] [(.agg [(.str r.rn),(.lst .cnd r.rw),(.str r.rl),(.int .i64 r.rs)]),(.lst .str ns),(.lst .int v)]=f0 r ns v:=T0 r ns v
theorem f0_eq (r:Rule) (ns:List (List UInt8)) (v:List Int) (h:nle (List.length ns) 90000=true):f0 r ns v=outV (holdsB r ns v) (holdsE r ns v):=by
  show sh0 r ns v=_
  unfold sh0 holdsB holdsE
  cases h1:ruleB r with
  | false=>rfl
  | true =>
    have hl:=(ruleB_len h1).1
    have h4:okR [r]=true:=by simp only [okR,List.all_cons,List.all_nil,Bool.and_true,Bool.and_eq_true]; exact ⟨nleT (by simp),nleT (by omega)⟩
    rw [h4,h,nleT (show r.rw.length≤90000 by omega)]
    cases h3:gvE [r] ns v == 0 with
    | true =>
      have e:gvE [r] ns v=0:=by simpa using h3
      rw [e]
      rfl
    | false=>exact gv_split (fun e=>outV false e) h3
theorem ok:CtxOk Tryd.prog X:=ctxOk tab (spC valid1.spOk (spC uholds.spOk spN)) dpN
theorem okM:MOk Tryd.prog X:=mspecOf_ok _ (mpC (mcSp_ok ok ugivenO.spOk) mpN)
theorem spec (r:Rule) (ns:List (List UInt8)) (v:List Int) (h:(nle (List.length ns) 90000)=true):CallSpec Tryd.prog E 11 [(.agg [(.str r.rn),(.lst .cnd r.rw),(.str r.rl),(.int .i64 r.rs)]),(.lst .str ns),(.lst .int v)] (.tup [(.bool (holdsB r ns v)),(.int .i64 (holdsE r ns v))]) [] :=
  runFn_sound ok okM Tryd.call11 Tryd.func11 (by kernel_rfl) (by kernel_rfl) (by kernel_rfl) (by show 3≤27; decide) (by decide) (by rfl) ((run r ns v).trans (f0_eq r ns v h))
noncomputable def sp:Sp U El:=fun args k=>match args with
  | [.agg [.str r_rn,.lst .cnd r_rw,.str r_rl,.int .i64 r_rs],.lst .str ns,.lst .int v]=>chk (nle (List.length ns) 90000) (k (.tup [(.bool (holdsB (⟨r_rn,r_rw,r_rl,r_rs⟩:Rule) ns v)),(.int .i64 (holdsE (⟨r_rn,r_rw,r_rl,r_rs⟩:Rule) ns v))]) [])
  | _=>none
theorem spOk:SpOk Tryd.prog E 11 sp where
  det:=fun vs=>by
    unfold sp
    split
    · exact det_c _ _ _
    · exact ⟨none,fun _=>rfl⟩
  ok:=fun vs k r h=>by
    unfold sp at h
    split at h
    · obtain ⟨h1, h2⟩ := chk_some h
      exact ⟨_,_,spec ⟨_,_,_,_⟩ _ _ h1,h2⟩
    · cases h
end uHolds
end Go.Proofs.YtlkfbblapimhoaaDoor
