/- Searches by closures; what is large. -/
import Derived.Test.YtlkfbblapimhoaaGreatDoorVA
namespace Go.Proofs.YtlkfbblapimhoaaGreatDoor
set_option linter.unusedSectionVars false
set_option linter.unusedSimpArgs false
set_option linter.unusedVariables false
set_option maxRecDepth 100000
noncomputable def okN (n:Net):Bool:=nle n.nds.length 90000&&(nle n.lks.length 90000&&List.all n.lks (fun x=>nle x.lv.length 9223372036854775807))
noncomputable def nodeZ (n:Net) (s:List UInt8):Int:=findZ (isNode s) 0 n.nds
noncomputable def linkZ (n:Net) (s:List UInt8):Int:=findZ (isLink s) 0 n.lks
theorem okN_nds {n:Net} (h:okN n=true):nle n.nds.length 90000=true:=(Bool.and_eq_true_iff.1 h).1
theorem okN_lks {n:Net} (h:okN n=true):nle n.lks.length 90000=true:=(Bool.and_eq_true_iff.1 (Bool.and_eq_true_iff.1 h).2).1
theorem okN_lv {n:Net} (h:okN n=true):∀ x∈n.lks,nle x.lv.length 9223372036854775807=true:=List.all_eq_true.1 (Bool.and_eq_true_iff.1 (Bool.and_eq_true_iff.1 h).2).2
namespace lev1
noncomputable def bd:Code:=(Tryz.f155.body).getD .skip
noncomputable def X:Ctx U El:=⟨E,tds,zeros,eqs,specOf [],100000,9,dspecOf [],fun _=>none⟩
noncomputable def nmR:Norm U:=⟨[],[2],[],[],[],[],[]⟩
noncomputable def RR:Kont U El:=fun st=>normK nmR st (retFin [2] [])
noncomputable def fr0 (x:Int):St U El:=⟨[(0,(.int .i64 x))],[]⟩
noncomputable def sh0 (x:Int):R :=
  condB (ilt x (-4194304:Int)) (some ((.bool true),[])) (some ((.bool (ilt (4194304:Int) x)),[]))
theorem P0 (x):exec X (cdp [] bd) .d (fr0 x) RR (fun _ _=>none) RR=sh0 x:=by kernel_rfl
noncomputable def f0 (x:Int):R:=sh0 x
theorem T0 (x):exec X bd .d (fr0 x) RR (fun _ _=>none) RR=f0 x:=by
  refine (P0 x).trans ?_
  show _=sh0 x
  rfl
theorem run (x):runFn X bd .d nmR [2] [] [(.int .i64 x)]=f0 x:=T0 x
theorem f0_eq (x:Int):f0 x=outB (notLev x):=cOr outB _ _
theorem ok:CtxOk Tryz.prog X:=ctxOk tab spN dpN
theorem okM:MOk Tryz.prog X:=fun g sp h=>by cases h
theorem spec (x:Int):CallSpec Tryz.prog E 155 [(.int .i64 x)] (.bool (notLev x)) [] :=
  runFn_sound ok okM Tryz.call155 Tryz.func155 (by kernel_rfl) (by kernel_rfl) (by kernel_rfl) (by show 1≤9; decide) (by decide) (by rfl) ((run x).trans (f0_eq x))
noncomputable def sp:Sp U El:=fun args k=>match args with
  | [.int .i64 x]=>k (.bool (notLev x)) []
  | _=>none
theorem spOk:SpOk Tryz.prog E 155 sp where
  det:=fun vs=>by
    unfold sp
    split
    · exact ⟨some (_,_),fun _=>rfl⟩
    · exact ⟨none,fun _=>rfl⟩
  ok:=fun vs k r h=>by
    unfold sp at h
    split at h
    · exact ⟨_,_,spec _,h⟩
    · cases h
end lev1
namespace lev1X
noncomputable def bd:Code:=(Tryz.f101.body).getD .skip
noncomputable def X:Ctx U El:=⟨E,tds,zeros,eqs,specOf [(155,lev1.sp)],100000,19,dspecOf [],fun _=>none⟩
noncomputable def nmR:Norm U:=⟨[],[4],[],[],[],[],[]⟩
noncomputable def RR:Kont U El:=fun st=>normK nmR st (retFin [4] [])
noncomputable def nm1:Norm U:=⟨[],[],[],[],[],[],[]⟩
noncomputable def nm2:Norm U:=⟨[],[0,1,7,8],[],[],[],[],[]⟩
abbrev Y1:=R
abbrev Y2:=(List Int)→Int→Int→R
noncomputable def fr0 (l:List Int):St U El:=⟨[(0,(.lst .int l)),(1,(.fn 155 [] []))],[]⟩
noncomputable def fr1:St U El:=⟨[],[]⟩
noncomputable def fr2 (s0:List Int) (x7:Int) (x8:Int):St U El:=⟨[(0,(.lst .int s0)),(1,(.fn 155 [] [])),(7,(.int .i64 x7)),(8,(.int .i64 x8))],[]⟩
noncomputable def sh0 (l:List Int) (k2:Y2):R :=
  k2 l (Int.ofNat (List.length l)) (0:Int)
noncomputable def sh1:R :=
  some ((.int .i64 (-1:Int)),[])
noncomputable def sh2 (s0:List Int) (x7:Int) (x8:Int) (k1:Y1) (k2:Y2):R :=
  condB (ilt x8 x7) (chk (inb x8 (List.length s0)) (condB (notLev (List.getD s0 (Int.toNat x8) d_int)) (some ((.int .i64 x8),[])) (k2 s0 x7 (IntKind.wrap .i64 (x8+(1:Int)))))) (k1)
noncomputable def it2 (Kb1:Kont U El) (n:Nat):Kont U El:=iter nm2 (fun st' K'=>exec X (cdp [1,0,1,0,0] bd) .d st' K' (Eblk 0 (cutK nm1 Kb1) (fun _ _=>none)) RR) n
noncomputable def ct1:Kont U El:=fun st=>exec X (cdp [1,1] bd) .d st RR (fun _ _=>none) RR
theorem P0 (l):exec X (cdp [] bd) (.seq none .d (.seq (some nm1) (.seq none .d (.block (.loop nm2 .d))) .d)) (fr0 l) RR (fun _ _=>none) RR=sh0 l (fun y0 y1 y2=>(hid (it2 (hid ct1) 100000)) (fr2 y0 y1 y2)):=by kernel_rfl
theorem P1:ct1 (fr1)=sh1:=by kernel_rfl
theorem P2 (s0 x7 x8) (Kb1 Kb2:Kont U El):exec X (cdp [1,0,1,0,0] bd) .d (fr2 s0 x7 x8) (cutK nm2 Kb2) (Eblk 0 (cutK nm1 Kb1) (fun _ _=>none)) RR=sh2 s0 x7 x8 (Kb1 (fr1)) (fun y0 y1 y2=>Kb2 (fr2 y0 y1 y2)):=by kernel_rfl
noncomputable def f1:R:=sh1
noncomputable def f2:Nat→Y2
  | 0=>fun _ _ _=>none
  | n+1=>fun s0 x7 x8=>sh2 s0 x7 x8 f1 (f2 n)
noncomputable def f0 (l:List Int):R:=sh0 l (f2 100000)
theorem T1:(hid ct1) (fr1)=f1:=by
  refine (congrFun (hid_eq _) _).trans <| (P1).trans ?_
  show _=sh1
  rfl
theorem T2:∀ (n:Nat),∀ s0 x7 x8,it2 (hid ct1) n (fr2 s0 x7 x8)=f2 n s0 x7 x8:=by
  intro n
  induction n with
  | zero=>intros; rfl
  | succ n ih =>
    intro s0 x7 x8
    refine (P2 s0 x7 x8 (hid ct1) (it2 (hid ct1) n)).trans ?_
    show _=sh2 s0 x7 x8 f1 (f2 n)
    simp only [T1,ih]
theorem H2 (s0 x7 x8):hid (it2 (hid ct1) 100000) (fr2 s0 x7 x8)=f2 100000 s0 x7 x8:=(congrFun (hid_eq _) _).trans (T2 100000 s0 x7 x8)
theorem T0 (l):exec X bd (.seq none .d (.seq (some nm1) (.seq none .d (.block (.loop nm2 .d))) .d)) (fr0 l) RR (fun _ _=>none) RR=f0 l:=by
  refine (P0 l).trans ?_
  show _=sh0 l (f2 100000)
  simp only [H2]
theorem run (l):runFn X bd (.seq none .d (.seq (some nm1) (.seq none .d (.block (.loop nm2 .d))) .d)) nmR [4] [] [(.lst .int l),(.fn 155 [] [])]=f0 l:=T0 l
theorem f0_eq (l:List Int) (h:(nle (List.length l) 90000)=true):f0 l=outI (findZ notLev 0 l):=by
  have hl:=nleI h
  refine (grun_eq l (by omega) (fun n_ (_:Unit) i_=>f2 n_ l (Int.ofNat l.length) i_) _ (fun _=>outI (-1)) (fun n_ u_ i_ hi_ => ?_) (fun n_ u_ => ?_) 100000 0 () (by omega) (by omega)).trans (grun_find notLev outI l 0)
  · show sh2 l (Int.ofNat l.length) i_ f1 (f2 n_) = _
    unfold sh2
    rw [iltT (by simp; omega),inbT hi_,toNat_nat,getD_lt hi_]
    rfl
  · show sh2 l (Int.ofNat l.length) (l.length : Int) f1 (f2 n_) = _
    unfold sh2
    rw [iltF (by simp)]
    rfl
theorem ok:CtxOk Tryz.prog X:=ctxOk tab (spC lev1.spOk spN) dpN
theorem okM:MOk Tryz.prog X:=fun g sp h=>by cases h
theorem spec (l:List Int) (h:(nle (List.length l) 90000)=true):CallSpec Tryz.prog E 101 [(.lst .int l),(.fn 155 [] [])] (.int .i64 (findZ notLev 0 l)) [] :=
  runFn_sound ok okM Tryz.call101 Tryz.func101 (by kernel_rfl) (by kernel_rfl) (by kernel_rfl) (by show 2≤19; decide) (by decide) (by rfl) ((run l).trans (f0_eq l h))
noncomputable def sp:Sp U El:=fun args k=>match args with
  | [.lst .int l,.fn 155 [] []]=>chk (nle (List.length l) 90000) (k (.int .i64 (findZ notLev 0 l)) [])
  | _=>none
theorem spOk:SpOk Tryz.prog E 101 sp where
  det:=fun vs=>by
    unfold sp
    split
    · exact det_c _ _ _
    · exact ⟨none,fun _=>rfl⟩
  ok:=fun vs k r h=>by
    unfold sp at h
    split at h
    · obtain ⟨h1, h2⟩ := chk_some h
      exact ⟨_,_,spec _ h1,h2⟩
    · cases h
end lev1X
namespace lev1C
noncomputable def bd:Code:=(Tryz.f51.body).getD .skip
noncomputable def X:Ctx U El:=⟨E,tds,zeros,eqs,specOf [(101,lev1X.sp)],100000,9,dspecOf [],fun _=>none⟩
noncomputable def nmR:Norm U:=⟨[],[4],[],[],[],[],[]⟩
noncomputable def RR:Kont U El:=fun st=>normK nmR st (retFin [4] [])
noncomputable def fr0 (l:List Int):St U El:=⟨[(0,(.lst .int l)),(1,(.fn 155 [] []))],[]⟩
noncomputable def sh0 (l:List Int):R :=
  chk (nle (List.length l) 90000) (some ((.bool (ile (0:Int) (findZ notLev 0 l))),[]))
theorem P0 (l):exec X (cdp [] bd) .d (fr0 l) RR (fun _ _=>none) RR=sh0 l:=by kernel_rfl
noncomputable def f0 (l:List Int):R:=sh0 l
theorem T0 (l):exec X bd .d (fr0 l) RR (fun _ _=>none) RR=f0 l:=by
  refine (P0 l).trans ?_
  show _=sh0 l
  rfl
theorem run (l):runFn X bd .d nmR [4] [] [(.lst .int l),(.fn 155 [] [])]=f0 l:=T0 l
theorem f0_eq (l:List Int) (h:(nle (List.length l) 90000)=true):f0 l=outB (List.any l notLev):=by
  show chk _ (outB _)=_
  rw [h,chkT,findZ_any]
theorem ok:CtxOk Tryz.prog X:=ctxOk tab (spC lev1X.spOk spN) dpN
theorem okM:MOk Tryz.prog X:=fun g sp h=>by cases h
theorem spec (l:List Int) (h:(nle (List.length l) 90000)=true):CallSpec Tryz.prog E 51 [(.lst .int l),(.fn 155 [] [])] (.bool (List.any l notLev)) [] :=
  runFn_sound ok okM Tryz.call51 Tryz.func51 (by kernel_rfl) (by kernel_rfl) (by kernel_rfl) (by show 2≤9; decide) (by decide) (by rfl) ((run l).trans (f0_eq l h))
noncomputable def sp:Sp U El:=fun args k=>match args with
  | [.lst .int l,.fn 155 [] []]=>chk (nle (List.length l) 90000) (k (.bool (List.any l notLev)) [])
  | _=>none
theorem spOk:SpOk Tryz.prog E 51 sp where
  det:=fun vs=>by
    unfold sp
    split
    · exact det_c _ _ _
    · exact ⟨none,fun _=>rfl⟩
  ok:=fun vs k r h=>by
    unfold sp at h
    split at h
    · obtain ⟨h1, h2⟩ := chk_some h
      exact ⟨_,_,spec _ h1,h2⟩
    · cases h
end lev1C
namespace level
noncomputable def bd:Code:=(Tryz.f125.body).getD .skip
noncomputable def X:Ctx U El:=⟨E,tds,zeros,eqs,specOf [(51,lev1C.sp)],100000,6,dspecOf [],fun _=>none⟩
noncomputable def nmR:Norm U:=⟨[],[2],[],[],[],[],[]⟩
noncomputable def RR:Kont U El:=fun st=>normK nmR st (retFin [2] [])
noncomputable def fr0 (l:List Int):St U El:=⟨[(0,(.lst .int l))],[]⟩
noncomputable def sh0 (l:List Int):R :=
  chk (nle (List.length l) 90000) (some ((.bool (!(List.any l notLev))),[]))
theorem P0 (l):exec X (cdp [] bd) .d (fr0 l) RR (fun _ _=>none) RR=sh0 l:=by kernel_rfl
noncomputable def f0 (l:List Int):R:=sh0 l
theorem T0 (l):exec X bd .d (fr0 l) RR (fun _ _=>none) RR=f0 l:=by
  refine (P0 l).trans ?_
  show _=sh0 l
  rfl
theorem run (l):runFn X bd .d nmR [2] [] [(.lst .int l)]=f0 l:=T0 l
theorem f0_eq (l:List Int) (h:nle (List.length l) 90000=true):f0 l=outB (!(List.any l notLev)):=by
  show chk _ (outB _)=_
  rw [h]; rfl
theorem ok:CtxOk Tryz.prog X:=ctxOk tab (spC lev1C.spOk spN) dpN
theorem okM:MOk Tryz.prog X:=fun g sp h=>by cases h
theorem spec (l:List Int) (h:(nle (List.length l) 90000)=true):CallSpec Tryz.prog E 125 [(.lst .int l)] (.bool (!(List.any l notLev))) [] :=
  runFn_sound ok okM Tryz.call125 Tryz.func125 (by kernel_rfl) (by kernel_rfl) (by kernel_rfl) (by show 1≤6; decide) (by decide) (by rfl) ((run l).trans (f0_eq l h))
noncomputable def sp:Sp U El:=fun args k=>match args with
  | [.lst .int l]=>chk (nle (List.length l) 90000) (k (.bool (!(List.any l notLev))) [])
  | _=>none
theorem spOk:SpOk Tryz.prog E 125 sp where
  det:=fun vs=>by
    unfold sp
    split
    · exact det_c _ _ _
    · exact ⟨none,fun _=>rfl⟩
  ok:=fun vs k r h=>by
    unfold sp at h
    split at h
    · obtain ⟨h1, h2⟩ := chk_some h
      exact ⟨_,_,spec _ h1,h2⟩
    · cases h
end level
namespace nd1
noncomputable def bd:Code:=(Tryz.f128.body).getD .skip
noncomputable def X:Ctx U El:=⟨E,tds,zeros,eqs,specOf [],100000,8,dspecOf [],fun _=>none⟩
noncomputable def nmR:Norm U:=⟨[],[3],[],[],[],[],[]⟩
noncomputable def RR:Kont U El:=fun st=>normK nmR st (retFin [3] [])
noncomputable def fr0 (x:Node) (s:List UInt8):St U El:=⟨[(0,(.agg [(.str x.nn),(.int .i64 x.nk),(.int .i64 x.nx),(.int .i64 x.ny),(.int .i64 x.ni),(.int .i64 x.ng),(.lst .knot x.nh),(.bool x.np),(.int .i64 x.nr)])),(1,(.pcs [(.str s)] 0))],[]⟩
noncomputable def sh0 (x:Node) (s:List UInt8):R :=
  some ((.bool (x.nn == s)),[])
theorem P0 (x s):exec X (cdp [] bd) .d (fr0 x s) RR (fun _ _=>none) RR=sh0 x s:=by kernel_rfl
noncomputable def f0 (x:Node) (s:List UInt8):R:=sh0 x s
theorem T0 (x s):exec X bd .d (fr0 x s) RR (fun _ _=>none) RR=f0 x s:=by
  refine (P0 x s).trans ?_
  show _=sh0 x s
  rfl
theorem run (x s):runFn X bd .d nmR [3] [] [(.agg [(.str x.nn),(.int .i64 x.nk),(.int .i64 x.nx),(.int .i64 x.ny),(.int .i64 x.ni),(.int .i64 x.ng),(.lst .knot x.nh),(.bool x.np),(.int .i64 x.nr)]),(.pcs [(.str s)] 0)]=f0 x s:=T0 x s
theorem f0_eq (x:Node) (s:List UInt8):f0 x s=outB (isNode s x):=rfl
theorem ok:CtxOk Tryz.prog X:=ctxOk tab spN dpN
theorem okM:MOk Tryz.prog X:=fun g sp h=>by cases h
theorem spec (x:Node) (s:List UInt8):CallSpec Tryz.prog E 128 [(.agg [(.str x.nn),(.int .i64 x.nk),(.int .i64 x.nx),(.int .i64 x.ny),(.int .i64 x.ni),(.int .i64 x.ng),(.lst .knot x.nh),(.bool x.np),(.int .i64 x.nr)]),(.pcs [(.str s)] 0)] (.bool ((isNode s) x)) [] :=
  runFn_sound ok okM Tryz.call128 Tryz.func128 (by kernel_rfl) (by kernel_rfl) (by kernel_rfl) (by show 2≤8; decide) (by decide) (by rfl) ((run x s).trans (f0_eq x s))
noncomputable def sp:Sp U El:=fun args k=>match args with
  | [.agg [.str x_nn,.int .i64 x_nk,.int .i64 x_nx,.int .i64 x_ny,.int .i64 x_ni,.int .i64 x_ng,.lst .knot x_nh,.bool x_np,.int .i64 x_nr],.pcs [.str s] 0]=>k (.bool ((isNode s) (⟨x_nn,x_nk,x_nx,x_ny,x_ni,x_ng,x_nh,x_np,x_nr⟩:Node))) []
  | _=>none
theorem spOk:SpOk Tryz.prog E 128 sp where
  det:=fun vs=>by
    unfold sp
    split
    · exact ⟨some (_,_),fun _=>rfl⟩
    · exact ⟨none,fun _=>rfl⟩
  ok:=fun vs k r h=>by
    unfold sp at h
    split at h
    · exact ⟨_,_,spec ⟨_,_,_,_,_,_,_,_,_⟩ _,h⟩
    · cases h
end nd1
namespace nd1X
noncomputable def bd:Code:=(Tryz.f127.body).getD .skip
noncomputable def X:Ctx U El:=⟨E,tds,zeros,eqs,specOf [(128,nd1.sp)],100000,19,dspecOf [],fun _=>none⟩
noncomputable def nmR:Norm U:=⟨[],[4],[],[],[],[],[]⟩
noncomputable def RR:Kont U El:=fun st=>normK nmR st (retFin [4] [])
noncomputable def nm1:Norm U:=⟨[],[],[],[],[],[],[]⟩
noncomputable def nm2:Norm U:=⟨[],[0,1,7,8],[],[],[],[],[]⟩
abbrev Y1:=R
abbrev Y2:=(List Node)→(List UInt8)→Int→Int→R
noncomputable def fr0 (l:List Node) (s:List UInt8):St U El:=⟨[(0,(.lst .node l)),(1,(.fn 128 [] [(.pcs [(.str s)] 0)]))],[]⟩
noncomputable def fr1:St U El:=⟨[],[]⟩
noncomputable def fr2 (s0:List Node) (f1c_0:List UInt8) (x7:Int) (x8:Int):St U El:=⟨[(0,(.lst .node s0)),(1,(.fn 128 [] [(.pcs [(.str f1c_0)] 0)])),(7,(.int .i64 x7)),(8,(.int .i64 x8))],[]⟩
noncomputable def sh0 (l:List Node) (s:List UInt8) (k2:Y2):R :=
  k2 l s (Int.ofNat (List.length l)) (0:Int)
noncomputable def sh1:R :=
  some ((.int .i64 (-1:Int)),[])
noncomputable def sh2 (s0:List Node) (f1c_0:List UInt8) (x7:Int) (x8:Int) (k1:Y1) (k2:Y2):R :=
  condB (ilt x8 x7) (chk (inb x8 (List.length s0)) (condB ((isNode f1c_0) (List.getD s0 (Int.toNat x8) d_node)) (some ((.int .i64 x8),[])) (k2 s0 f1c_0 x7 (IntKind.wrap .i64 (x8+(1:Int)))))) (k1)
noncomputable def it2 (Kb1:Kont U El) (n:Nat):Kont U El:=iter nm2 (fun st' K'=>exec X (cdp [1,0,1,0,0] bd) .d st' K' (Eblk 0 (cutK nm1 Kb1) (fun _ _=>none)) RR) n
noncomputable def ct1:Kont U El:=fun st=>exec X (cdp [1,1] bd) .d st RR (fun _ _=>none) RR
theorem P0 (l s):exec X (cdp [] bd) (.seq none .d (.seq (some nm1) (.seq none .d (.block (.loop nm2 .d))) .d)) (fr0 l s) RR (fun _ _=>none) RR=sh0 l s (fun y0 y1 y2 y3=>(hid (it2 (hid ct1) 100000)) (fr2 y0 y1 y2 y3)):=by kernel_rfl
theorem P1:ct1 (fr1)=sh1:=by kernel_rfl
theorem P2 (s0 f1c_0 x7 x8) (Kb1 Kb2:Kont U El):exec X (cdp [1,0,1,0,0] bd) .d (fr2 s0 f1c_0 x7 x8) (cutK nm2 Kb2) (Eblk 0 (cutK nm1 Kb1) (fun _ _=>none)) RR=sh2 s0 f1c_0 x7 x8 (Kb1 (fr1)) (fun y0 y1 y2 y3=>Kb2 (fr2 y0 y1 y2 y3)):=by kernel_rfl
noncomputable def f1:R:=sh1
noncomputable def f2:Nat→Y2
  | 0=>fun _ _ _ _=>none
  | n+1=>fun s0 f1c_0 x7 x8=>sh2 s0 f1c_0 x7 x8 f1 (f2 n)
noncomputable def f0 (l:List Node) (s:List UInt8):R:=sh0 l s (f2 100000)
theorem T1:(hid ct1) (fr1)=f1:=by
  refine (congrFun (hid_eq _) _).trans <| (P1).trans ?_
  show _=sh1
  rfl
theorem T2:∀ (n:Nat),∀ s0 f1c_0 x7 x8,it2 (hid ct1) n (fr2 s0 f1c_0 x7 x8)=f2 n s0 f1c_0 x7 x8:=by
  intro n
  induction n with
  | zero=>intros; rfl
  | succ n ih =>
    intro s0 f1c_0 x7 x8
    refine (P2 s0 f1c_0 x7 x8 (hid ct1) (it2 (hid ct1) n)).trans ?_
    show _=sh2 s0 f1c_0 x7 x8 f1 (f2 n)
    simp only [T1,ih]
theorem H2 (s0 f1c_0 x7 x8):hid (it2 (hid ct1) 100000) (fr2 s0 f1c_0 x7 x8)=f2 100000 s0 f1c_0 x7 x8:=(congrFun (hid_eq _) _).trans (T2 100000 s0 f1c_0 x7 x8)
theorem T0 (l s):exec X bd (.seq none .d (.seq (some nm1) (.seq none .d (.block (.loop nm2 .d))) .d)) (fr0 l s) RR (fun _ _=>none) RR=f0 l s:=by
  refine (P0 l s).trans ?_
  show _=sh0 l s (f2 100000)
  simp only [H2]
theorem run (l s):runFn X bd (.seq none .d (.seq (some nm1) (.seq none .d (.block (.loop nm2 .d))) .d)) nmR [4] [] [(.lst .node l),(.fn 128 [] [(.pcs [(.str s)] 0)])]=f0 l s:=T0 l s
theorem f0_eq (l:List Node) (s:List UInt8) (h:(nle (List.length l) 90000)=true):f0 l s=outI (findZ (isNode s) 0 l):=by
  have hl:=nleI h
  refine (grun_eq l (by omega) (fun n_ (_:Unit) i_=>f2 n_ l s (Int.ofNat l.length) i_) _ (fun _=>outI (-1)) (fun n_ u_ i_ hi_ => ?_) (fun n_ u_ => ?_) 100000 0 () (by omega) (by omega)).trans (grun_find (isNode s) outI l 0)
  · show sh2 l s (Int.ofNat l.length) i_ f1 (f2 n_) = _
    unfold sh2
    rw [iltT (by simp; omega),inbT hi_,toNat_nat,getD_lt hi_]
    rfl
  · show sh2 l s (Int.ofNat l.length) (l.length : Int) f1 (f2 n_) = _
    unfold sh2
    rw [iltF (by simp)]
    rfl
theorem ok:CtxOk Tryz.prog X:=ctxOk tab (spC nd1.spOk spN) dpN
theorem okM:MOk Tryz.prog X:=fun g sp h=>by cases h
theorem spec (l:List Node) (s:List UInt8) (h:(nle (List.length l) 90000)=true):CallSpec Tryz.prog E 127 [(.lst .node l),(.fn 128 [] [(.pcs [(.str s)] 0)])] (.int .i64 (findZ (isNode s) 0 l)) [] :=
  runFn_sound ok okM Tryz.call127 Tryz.func127 (by kernel_rfl) (by kernel_rfl) (by kernel_rfl) (by show 2≤19; decide) (by decide) (by rfl) ((run l s).trans (f0_eq l s h))
noncomputable def sp:Sp U El:=fun args k=>match args with
  | [.lst .node l,.fn 128 [] [.pcs [.str s] 0]]=>chk (nle (List.length l) 90000) (k (.int .i64 (findZ (isNode s) 0 l)) [])
  | _=>none
theorem spOk:SpOk Tryz.prog E 127 sp where
  det:=fun vs=>by
    unfold sp
    split
    · exact det_c _ _ _
    · exact ⟨none,fun _=>rfl⟩
  ok:=fun vs k r h=>by
    unfold sp at h
    split at h
    · obtain ⟨h1, h2⟩ := chk_some h
      exact ⟨_,_,spec _ _ h1,h2⟩
    · cases h
end nd1X
namespace lk1
noncomputable def bd:Code:=(Tryz.f135.body).getD .skip
noncomputable def X:Ctx U El:=⟨E,tds,zeros,eqs,specOf [],100000,8,dspecOf [],fun _=>none⟩
noncomputable def nmR:Norm U:=⟨[],[3],[],[],[],[],[]⟩
noncomputable def RR:Kont U El:=fun st=>normK nmR st (retFin [3] [])
noncomputable def fr0 (x:Lnk) (s:List UInt8):St U El:=⟨[(0,(.agg [(.str x.ln),(.str x.lf),(.str x.lt),(.int .i64 x.lk),(.int .i64 x.ll),(.int .i64 x.lu),(.int .i64 x.ld),(.str x.lc),(.int .i64 x.lw),(.int .i64 x.lh),(.lst .knot x.lv)])),(1,(.pcs [(.str s)] 0))],[]⟩
noncomputable def sh0 (x:Lnk) (s:List UInt8):R :=
  some ((.bool (x.ln == s)),[])
theorem P0 (x s):exec X (cdp [] bd) .d (fr0 x s) RR (fun _ _=>none) RR=sh0 x s:=by kernel_rfl
noncomputable def f0 (x:Lnk) (s:List UInt8):R:=sh0 x s
theorem T0 (x s):exec X bd .d (fr0 x s) RR (fun _ _=>none) RR=f0 x s:=by
  refine (P0 x s).trans ?_
  show _=sh0 x s
  rfl
theorem run (x s):runFn X bd .d nmR [3] [] [(.agg [(.str x.ln),(.str x.lf),(.str x.lt),(.int .i64 x.lk),(.int .i64 x.ll),(.int .i64 x.lu),(.int .i64 x.ld),(.str x.lc),(.int .i64 x.lw),(.int .i64 x.lh),(.lst .knot x.lv)]),(.pcs [(.str s)] 0)]=f0 x s:=T0 x s
theorem f0_eq (x:Lnk) (s:List UInt8):f0 x s=outB (isLink s x):=rfl
theorem ok:CtxOk Tryz.prog X:=ctxOk tab spN dpN
theorem okM:MOk Tryz.prog X:=fun g sp h=>by cases h
theorem spec (x:Lnk) (s:List UInt8):CallSpec Tryz.prog E 135 [(.agg [(.str x.ln),(.str x.lf),(.str x.lt),(.int .i64 x.lk),(.int .i64 x.ll),(.int .i64 x.lu),(.int .i64 x.ld),(.str x.lc),(.int .i64 x.lw),(.int .i64 x.lh),(.lst .knot x.lv)]),(.pcs [(.str s)] 0)] (.bool ((isLink s) x)) [] :=
  runFn_sound ok okM Tryz.call135 Tryz.func135 (by kernel_rfl) (by kernel_rfl) (by kernel_rfl) (by show 2≤8; decide) (by decide) (by rfl) ((run x s).trans (f0_eq x s))
noncomputable def sp:Sp U El:=fun args k=>match args with
  | [.agg [.str x_ln,.str x_lf,.str x_lt,.int .i64 x_lk,.int .i64 x_ll,.int .i64 x_lu,.int .i64 x_ld,.str x_lc,.int .i64 x_lw,.int .i64 x_lh,.lst .knot x_lv],.pcs [.str s] 0]=>k (.bool ((isLink s) (⟨x_ln,x_lf,x_lt,x_lk,x_ll,x_lu,x_ld,x_lc,x_lw,x_lh,x_lv⟩:Lnk))) []
  | _=>none
theorem spOk:SpOk Tryz.prog E 135 sp where
  det:=fun vs=>by
    unfold sp
    split
    · exact ⟨some (_,_),fun _=>rfl⟩
    · exact ⟨none,fun _=>rfl⟩
  ok:=fun vs k r h=>by
    unfold sp at h
    split at h
    · exact ⟨_,_,spec ⟨_,_,_,_,_,_,_,_,_,_,_⟩ _,h⟩
    · cases h
end lk1
namespace lk1X
noncomputable def bd:Code:=(Tryz.f134.body).getD .skip
noncomputable def X:Ctx U El:=⟨E,tds,zeros,eqs,specOf [(135,lk1.sp)],100000,19,dspecOf [],fun _=>none⟩
noncomputable def nmR:Norm U:=⟨[],[4],[],[],[],[],[]⟩
noncomputable def RR:Kont U El:=fun st=>normK nmR st (retFin [4] [])
noncomputable def nm1:Norm U:=⟨[],[],[],[],[],[],[]⟩
noncomputable def nm2:Norm U:=⟨[],[0,1,7,8],[],[],[],[],[]⟩
abbrev Y1:=R
abbrev Y2:=(List Lnk)→(List UInt8)→Int→Int→R
noncomputable def fr0 (l:List Lnk) (s:List UInt8):St U El:=⟨[(0,(.lst .link l)),(1,(.fn 135 [] [(.pcs [(.str s)] 0)]))],[]⟩
noncomputable def fr1:St U El:=⟨[],[]⟩
noncomputable def fr2 (s0:List Lnk) (f1c_0:List UInt8) (x7:Int) (x8:Int):St U El:=⟨[(0,(.lst .link s0)),(1,(.fn 135 [] [(.pcs [(.str f1c_0)] 0)])),(7,(.int .i64 x7)),(8,(.int .i64 x8))],[]⟩
noncomputable def sh0 (l:List Lnk) (s:List UInt8) (k2:Y2):R :=
  k2 l s (Int.ofNat (List.length l)) (0:Int)
noncomputable def sh1:R :=
  some ((.int .i64 (-1:Int)),[])
noncomputable def sh2 (s0:List Lnk) (f1c_0:List UInt8) (x7:Int) (x8:Int) (k1:Y1) (k2:Y2):R :=
  condB (ilt x8 x7) (chk (inb x8 (List.length s0)) (condB ((isLink f1c_0) (List.getD s0 (Int.toNat x8) d_link)) (some ((.int .i64 x8),[])) (k2 s0 f1c_0 x7 (IntKind.wrap .i64 (x8+(1:Int)))))) (k1)
noncomputable def it2 (Kb1:Kont U El) (n:Nat):Kont U El:=iter nm2 (fun st' K'=>exec X (cdp [1,0,1,0,0] bd) .d st' K' (Eblk 0 (cutK nm1 Kb1) (fun _ _=>none)) RR) n
noncomputable def ct1:Kont U El:=fun st=>exec X (cdp [1,1] bd) .d st RR (fun _ _=>none) RR
theorem P0 (l s):exec X (cdp [] bd) (.seq none .d (.seq (some nm1) (.seq none .d (.block (.loop nm2 .d))) .d)) (fr0 l s) RR (fun _ _=>none) RR=sh0 l s (fun y0 y1 y2 y3=>(hid (it2 (hid ct1) 100000)) (fr2 y0 y1 y2 y3)):=by kernel_rfl
theorem P1:ct1 (fr1)=sh1:=by kernel_rfl
theorem P2 (s0 f1c_0 x7 x8) (Kb1 Kb2:Kont U El):exec X (cdp [1,0,1,0,0] bd) .d (fr2 s0 f1c_0 x7 x8) (cutK nm2 Kb2) (Eblk 0 (cutK nm1 Kb1) (fun _ _=>none)) RR=sh2 s0 f1c_0 x7 x8 (Kb1 (fr1)) (fun y0 y1 y2 y3=>Kb2 (fr2 y0 y1 y2 y3)):=by kernel_rfl
noncomputable def f1:R:=sh1
noncomputable def f2:Nat→Y2
  | 0=>fun _ _ _ _=>none
  | n+1=>fun s0 f1c_0 x7 x8=>sh2 s0 f1c_0 x7 x8 f1 (f2 n)
noncomputable def f0 (l:List Lnk) (s:List UInt8):R:=sh0 l s (f2 100000)
theorem T1:(hid ct1) (fr1)=f1:=by
  refine (congrFun (hid_eq _) _).trans <| (P1).trans ?_
  show _=sh1
  rfl
theorem T2:∀ (n:Nat),∀ s0 f1c_0 x7 x8,it2 (hid ct1) n (fr2 s0 f1c_0 x7 x8)=f2 n s0 f1c_0 x7 x8:=by
  intro n
  induction n with
  | zero=>intros; rfl
  | succ n ih =>
    intro s0 f1c_0 x7 x8
    refine (P2 s0 f1c_0 x7 x8 (hid ct1) (it2 (hid ct1) n)).trans ?_
    show _=sh2 s0 f1c_0 x7 x8 f1 (f2 n)
    simp only [T1,ih]
theorem H2 (s0 f1c_0 x7 x8):hid (it2 (hid ct1) 100000) (fr2 s0 f1c_0 x7 x8)=f2 100000 s0 f1c_0 x7 x8:=(congrFun (hid_eq _) _).trans (T2 100000 s0 f1c_0 x7 x8)
theorem T0 (l s):exec X bd (.seq none .d (.seq (some nm1) (.seq none .d (.block (.loop nm2 .d))) .d)) (fr0 l s) RR (fun _ _=>none) RR=f0 l s:=by
  refine (P0 l s).trans ?_
  show _=sh0 l s (f2 100000)
  simp only [H2]
theorem run (l s):runFn X bd (.seq none .d (.seq (some nm1) (.seq none .d (.block (.loop nm2 .d))) .d)) nmR [4] [] [(.lst .link l),(.fn 135 [] [(.pcs [(.str s)] 0)])]=f0 l s:=T0 l s
theorem f0_eq (l:List Lnk) (s:List UInt8) (h:(nle (List.length l) 90000)=true):f0 l s=outI (findZ (isLink s) 0 l):=by
  have hl:=nleI h
  refine (grun_eq l (by omega) (fun n_ (_:Unit) i_=>f2 n_ l s (Int.ofNat l.length) i_) _ (fun _=>outI (-1)) (fun n_ u_ i_ hi_ => ?_) (fun n_ u_ => ?_) 100000 0 () (by omega) (by omega)).trans (grun_find (isLink s) outI l 0)
  · show sh2 l s (Int.ofNat l.length) i_ f1 (f2 n_) = _
    unfold sh2
    rw [iltT (by simp; omega),inbT hi_,toNat_nat,getD_lt hi_]
    rfl
  · show sh2 l s (Int.ofNat l.length) (l.length : Int) f1 (f2 n_) = _
    unfold sh2
    rw [iltF (by simp)]
    rfl
theorem ok:CtxOk Tryz.prog X:=ctxOk tab (spC lk1.spOk spN) dpN
theorem okM:MOk Tryz.prog X:=fun g sp h=>by cases h
theorem spec (l:List Lnk) (s:List UInt8) (h:(nle (List.length l) 90000)=true):CallSpec Tryz.prog E 134 [(.lst .link l),(.fn 135 [] [(.pcs [(.str s)] 0)])] (.int .i64 (findZ (isLink s) 0 l)) [] :=
  runFn_sound ok okM Tryz.call134 Tryz.func134 (by kernel_rfl) (by kernel_rfl) (by kernel_rfl) (by show 2≤19; decide) (by decide) (by rfl) ((run l s).trans (f0_eq l s h))
noncomputable def sp:Sp U El:=fun args k=>match args with
  | [.lst .link l,.fn 135 [] [.pcs [.str s] 0]]=>chk (nle (List.length l) 90000) (k (.int .i64 (findZ (isLink s) 0 l)) [])
  | _=>none
theorem spOk:SpOk Tryz.prog E 134 sp where
  det:=fun vs=>by
    unfold sp
    split
    · exact det_c _ _ _
    · exact ⟨none,fun _=>rfl⟩
  ok:=fun vs k r h=>by
    unfold sp at h
    split at h
    · obtain ⟨h1, h2⟩ := chk_some h
      exact ⟨_,_,spec _ _ h1,h2⟩
    · cases h
end lk1X
namespace rl1
noncomputable def bd:Code:=(Tryz.f133.body).getD .skip
noncomputable def X:Ctx U El:=⟨E,tds,zeros,eqs,specOf [(124,between.sp)],100000,13,dspecOf [],fun _=>none⟩
noncomputable def nmR:Norm U:=⟨[],[2],[],[],[],[],[]⟩
noncomputable def RR:Kont U El:=fun st=>normK nmR st (retFin [2] [])
noncomputable def fr0 (x:Knot):St U El:=⟨[(0,(.agg [(.int .i64 x.kx),(.int .i64 x.ky)]))],[]⟩
noncomputable def sh0 (x:Knot):R :=
  condB (!((ile (0:Int) x.kx&&ile x.kx (4194304:Int)))) (some ((.bool true),[])) (some ((.bool (!((ile (0:Int) x.ky&&ile x.ky (1099511627776:Int))))),[]))
theorem P0 (x):exec X (cdp [] bd) .d (fr0 x) RR (fun _ _=>none) RR=sh0 x:=by kernel_rfl
noncomputable def f0 (x:Knot):R:=sh0 x
theorem T0 (x):exec X bd .d (fr0 x) RR (fun _ _=>none) RR=f0 x:=by
  refine (P0 x).trans ?_
  show _=sh0 x
  rfl
theorem run (x):runFn X bd .d nmR [2] [] [(.agg [(.int .i64 x.kx),(.int .i64 x.ky)])]=f0 x:=T0 x
theorem f0_eq (x:Knot):f0 x=outB (badKnot x):=cOr outB _ _
theorem ok:CtxOk Tryz.prog X:=ctxOk tab (spC between.spOk spN) dpN
theorem okM:MOk Tryz.prog X:=fun g sp h=>by cases h
theorem spec (x:Knot):CallSpec Tryz.prog E 133 [(.agg [(.int .i64 x.kx),(.int .i64 x.ky)])] (.bool (badKnot x)) [] :=
  runFn_sound ok okM Tryz.call133 Tryz.func133 (by kernel_rfl) (by kernel_rfl) (by kernel_rfl) (by show 1≤13; decide) (by decide) (by rfl) ((run x).trans (f0_eq x))
noncomputable def sp:Sp U El:=fun args k=>match args with
  | [.agg [.int .i64 x_kx,.int .i64 x_ky]]=>k (.bool (badKnot (⟨x_kx,x_ky⟩:Knot))) []
  | _=>none
theorem spOk:SpOk Tryz.prog E 133 sp where
  det:=fun vs=>by
    unfold sp
    split
    · exact ⟨some (_,_),fun _=>rfl⟩
    · exact ⟨none,fun _=>rfl⟩
  ok:=fun vs k r h=>by
    unfold sp at h
    split at h
    · exact ⟨_,_,spec ⟨_,_⟩,h⟩
    · cases h
end rl1
namespace rl1X
noncomputable def bd:Code:=(Tryz.f158.body).getD .skip
noncomputable def X:Ctx U El:=⟨E,tds,zeros,eqs,specOf [(133,rl1.sp)],100000,19,dspecOf [],fun _=>none⟩
noncomputable def nmR:Norm U:=⟨[],[4],[],[],[],[],[]⟩
noncomputable def RR:Kont U El:=fun st=>normK nmR st (retFin [4] [])
noncomputable def nm1:Norm U:=⟨[],[],[],[],[],[],[]⟩
noncomputable def nm2:Norm U:=⟨[],[0,1,7,8],[],[],[],[],[]⟩
abbrev Y1:=R
abbrev Y2:=(List Knot)→Int→Int→R
noncomputable def fr0 (l:List Knot):St U El:=⟨[(0,(.lst .knot l)),(1,(.fn 133 [] []))],[]⟩
noncomputable def fr1:St U El:=⟨[],[]⟩
noncomputable def fr2 (s0:List Knot) (x7:Int) (x8:Int):St U El:=⟨[(0,(.lst .knot s0)),(1,(.fn 133 [] [])),(7,(.int .i64 x7)),(8,(.int .i64 x8))],[]⟩
noncomputable def sh0 (l:List Knot) (k2:Y2):R :=
  k2 l (Int.ofNat (List.length l)) (0:Int)
noncomputable def sh1:R :=
  some ((.int .i64 (-1:Int)),[])
noncomputable def sh2 (s0:List Knot) (x7:Int) (x8:Int) (k1:Y1) (k2:Y2):R :=
  condB (ilt x8 x7) (chk (inb x8 (List.length s0)) (condB (badKnot (List.getD s0 (Int.toNat x8) d_knot)) (some ((.int .i64 x8),[])) (k2 s0 x7 (IntKind.wrap .i64 (x8+(1:Int)))))) (k1)
noncomputable def it2 (Kb1:Kont U El) (n:Nat):Kont U El:=iter nm2 (fun st' K'=>exec X (cdp [1,0,1,0,0] bd) .d st' K' (Eblk 0 (cutK nm1 Kb1) (fun _ _=>none)) RR) n
noncomputable def ct1:Kont U El:=fun st=>exec X (cdp [1,1] bd) .d st RR (fun _ _=>none) RR
theorem P0 (l):exec X (cdp [] bd) (.seq none .d (.seq (some nm1) (.seq none .d (.block (.loop nm2 .d))) .d)) (fr0 l) RR (fun _ _=>none) RR=sh0 l (fun y0 y1 y2=>(hid (it2 (hid ct1) 100000)) (fr2 y0 y1 y2)):=by kernel_rfl
theorem P1:ct1 (fr1)=sh1:=by kernel_rfl
theorem P2 (s0 x7 x8) (Kb1 Kb2:Kont U El):exec X (cdp [1,0,1,0,0] bd) .d (fr2 s0 x7 x8) (cutK nm2 Kb2) (Eblk 0 (cutK nm1 Kb1) (fun _ _=>none)) RR=sh2 s0 x7 x8 (Kb1 (fr1)) (fun y0 y1 y2=>Kb2 (fr2 y0 y1 y2)):=by kernel_rfl
noncomputable def f1:R:=sh1
noncomputable def f2:Nat→Y2
  | 0=>fun _ _ _=>none
  | n+1=>fun s0 x7 x8=>sh2 s0 x7 x8 f1 (f2 n)
noncomputable def f0 (l:List Knot):R:=sh0 l (f2 100000)
theorem T1:(hid ct1) (fr1)=f1:=by
  refine (congrFun (hid_eq _) _).trans <| (P1).trans ?_
  show _=sh1
  rfl
theorem T2:∀ (n:Nat),∀ s0 x7 x8,it2 (hid ct1) n (fr2 s0 x7 x8)=f2 n s0 x7 x8:=by
  intro n
  induction n with
  | zero=>intros; rfl
  | succ n ih =>
    intro s0 x7 x8
    refine (P2 s0 x7 x8 (hid ct1) (it2 (hid ct1) n)).trans ?_
    show _=sh2 s0 x7 x8 f1 (f2 n)
    simp only [T1,ih]
theorem H2 (s0 x7 x8):hid (it2 (hid ct1) 100000) (fr2 s0 x7 x8)=f2 100000 s0 x7 x8:=(congrFun (hid_eq _) _).trans (T2 100000 s0 x7 x8)
theorem T0 (l):exec X bd (.seq none .d (.seq (some nm1) (.seq none .d (.block (.loop nm2 .d))) .d)) (fr0 l) RR (fun _ _=>none) RR=f0 l:=by
  refine (P0 l).trans ?_
  show _=sh0 l (f2 100000)
  simp only [H2]
theorem run (l):runFn X bd (.seq none .d (.seq (some nm1) (.seq none .d (.block (.loop nm2 .d))) .d)) nmR [4] [] [(.lst .knot l),(.fn 133 [] [])]=f0 l:=T0 l
theorem f0_eq (l:List Knot) (h:(nle (List.length l) 90000)=true):f0 l=outI (findZ badKnot 0 l):=by
  have hl:=nleI h
  refine (grun_eq l (by omega) (fun n_ (_:Unit) i_=>f2 n_ l (Int.ofNat l.length) i_) _ (fun _=>outI (-1)) (fun n_ u_ i_ hi_ => ?_) (fun n_ u_ => ?_) 100000 0 () (by omega) (by omega)).trans (grun_find badKnot outI l 0)
  · show sh2 l (Int.ofNat l.length) i_ f1 (f2 n_) = _
    unfold sh2
    rw [iltT (by simp; omega),inbT hi_,toNat_nat,getD_lt hi_]
    rfl
  · show sh2 l (Int.ofNat l.length) (l.length : Int) f1 (f2 n_) = _
    unfold sh2
    rw [iltF (by simp)]
    rfl
theorem ok:CtxOk Tryz.prog X:=ctxOk tab (spC rl1.spOk spN) dpN
theorem okM:MOk Tryz.prog X:=fun g sp h=>by cases h
theorem spec (l:List Knot) (h:(nle (List.length l) 90000)=true):CallSpec Tryz.prog E 158 [(.lst .knot l),(.fn 133 [] [])] (.int .i64 (findZ badKnot 0 l)) [] :=
  runFn_sound ok okM Tryz.call158 Tryz.func158 (by kernel_rfl) (by kernel_rfl) (by kernel_rfl) (by show 2≤19; decide) (by decide) (by rfl) ((run l).trans (f0_eq l h))
noncomputable def sp:Sp U El:=fun args k=>match args with
  | [.lst .knot l,.fn 133 [] []]=>chk (nle (List.length l) 90000) (k (.int .i64 (findZ badKnot 0 l)) [])
  | _=>none
theorem spOk:SpOk Tryz.prog E 158 sp where
  det:=fun vs=>by
    unfold sp
    split
    · exact det_c _ _ _
    · exact ⟨none,fun _=>rfl⟩
  ok:=fun vs k r h=>by
    unfold sp at h
    split at h
    · obtain ⟨h1, h2⟩ := chk_some h
      exact ⟨_,_,spec _ h1,h2⟩
    · cases h
end rl1X
namespace rl1C
noncomputable def bd:Code:=(Tryz.f132.body).getD .skip
noncomputable def X:Ctx U El:=⟨E,tds,zeros,eqs,specOf [(158,rl1X.sp)],100000,9,dspecOf [],fun _=>none⟩
noncomputable def nmR:Norm U:=⟨[],[4],[],[],[],[],[]⟩
noncomputable def RR:Kont U El:=fun st=>normK nmR st (retFin [4] [])
noncomputable def fr0 (l:List Knot):St U El:=⟨[(0,(.lst .knot l)),(1,(.fn 133 [] []))],[]⟩
noncomputable def sh0 (l:List Knot):R :=
  chk (nle (List.length l) 90000) (some ((.bool (ile (0:Int) (findZ badKnot 0 l))),[]))
theorem P0 (l):exec X (cdp [] bd) .d (fr0 l) RR (fun _ _=>none) RR=sh0 l:=by kernel_rfl
noncomputable def f0 (l:List Knot):R:=sh0 l
theorem T0 (l):exec X bd .d (fr0 l) RR (fun _ _=>none) RR=f0 l:=by
  refine (P0 l).trans ?_
  show _=sh0 l
  rfl
theorem run (l):runFn X bd .d nmR [4] [] [(.lst .knot l),(.fn 133 [] [])]=f0 l:=T0 l
theorem f0_eq (l:List Knot) (h:(nle (List.length l) 90000)=true):f0 l=outB (List.any l badKnot):=by
  show chk _ (outB _)=_
  rw [h,chkT,findZ_any]
theorem ok:CtxOk Tryz.prog X:=ctxOk tab (spC rl1X.spOk spN) dpN
theorem okM:MOk Tryz.prog X:=fun g sp h=>by cases h
theorem spec (l:List Knot) (h:(nle (List.length l) 90000)=true):CallSpec Tryz.prog E 132 [(.lst .knot l),(.fn 133 [] [])] (.bool (List.any l badKnot)) [] :=
  runFn_sound ok okM Tryz.call132 Tryz.func132 (by kernel_rfl) (by kernel_rfl) (by kernel_rfl) (by show 2≤9; decide) (by decide) (by rfl) ((run l).trans (f0_eq l h))
noncomputable def sp:Sp U El:=fun args k=>match args with
  | [.lst .knot l,.fn 133 [] []]=>chk (nle (List.length l) 90000) (k (.bool (List.any l badKnot)) [])
  | _=>none
theorem spOk:SpOk Tryz.prog E 132 sp where
  det:=fun vs=>by
    unfold sp
    split
    · exact det_c _ _ _
    · exact ⟨none,fun _=>rfl⟩
  ok:=fun vs k r h=>by
    unfold sp at h
    split at h
    · obtain ⟨h1, h2⟩ := chk_some h
      exact ⟨_,_,spec _ h1,h2⟩
    · cases h
end rl1C
namespace nnode
noncomputable def bd:Code:=(Tryz.f98.body).getD .skip
noncomputable def X:Ctx U El:=⟨E,tds,zeros,eqs,specOf [(127,nd1X.sp)],100000,9,dspecOf [],fun _=>none⟩
noncomputable def nmR:Norm U:=⟨[],[4],[],[],[],[],[]⟩
noncomputable def RR:Kont U El:=fun st=>normK nmR st (retFin [4] [])
noncomputable def fr0 (n:Net) (s:List UInt8):St U El:=⟨[(0,(.agg [(.lst .node n.nds),(.lst .link n.lks)])),(1,(.str s))],[]⟩
noncomputable def sh0 (n:Net) (s:List UInt8):R :=
  chk (nle (List.length n.nds) 90000) (some ((.int .i64 (findZ (isNode s) 0 n.nds)),[]))
theorem P0 (n s):exec X (cdp [] bd) .d (fr0 n s) RR (fun _ _=>none) RR=sh0 n s:=by kernel_rfl
noncomputable def f0 (n:Net) (s:List UInt8):R:=sh0 n s
theorem T0 (n s):exec X bd .d (fr0 n s) RR (fun _ _=>none) RR=f0 n s:=by
  refine (P0 n s).trans ?_
  show _=sh0 n s
  rfl
theorem run (n s):runFn X bd .d nmR [4] [] [(.agg [(.lst .node n.nds),(.lst .link n.lks)]),(.str s)]=f0 n s:=T0 n s
theorem f0_eq (n:Net) (s:List UInt8) (h:okN n=true):f0 n s=outI (nodeZ n s):=by
  show chk _ _=_
  rw [okN_nds h]; rfl
theorem ok:CtxOk Tryz.prog X:=ctxOk tab (spC nd1X.spOk spN) dpN
theorem okM:MOk Tryz.prog X:=fun g sp h=>by cases h
theorem spec (n:Net) (s:List UInt8) (h:(okN n)=true):CallSpec Tryz.prog E 98 [(.agg [(.lst .node n.nds),(.lst .link n.lks)]),(.str s)] (.int .i64 (nodeZ n s)) [] :=
  runFn_sound ok okM Tryz.call98 Tryz.func98 (by kernel_rfl) (by kernel_rfl) (by kernel_rfl) (by show 2≤9; decide) (by decide) (by rfl) ((run n s).trans (f0_eq n s h))
noncomputable def sp:Sp U El:=fun args k=>match args with
  | [.agg [.lst .node n_nds,.lst .link n_lks],.str s]=>chk (okN (⟨n_nds,n_lks⟩:Net)) (k (.int .i64 (nodeZ (⟨n_nds,n_lks⟩:Net) s)) [])
  | _=>none
theorem spOk:SpOk Tryz.prog E 98 sp where
  det:=fun vs=>by
    unfold sp
    split
    · exact det_c _ _ _
    · exact ⟨none,fun _=>rfl⟩
  ok:=fun vs k r h=>by
    unfold sp at h
    split at h
    · obtain ⟨h1, h2⟩ := chk_some h
      exact ⟨_,_,spec ⟨_,_⟩ _ h1,h2⟩
    · cases h
end nnode
namespace nlink
noncomputable def bd:Code:=(Tryz.f100.body).getD .skip
noncomputable def X:Ctx U El:=⟨E,tds,zeros,eqs,specOf [(134,lk1X.sp)],100000,9,dspecOf [],fun _=>none⟩
noncomputable def nmR:Norm U:=⟨[],[4],[],[],[],[],[]⟩
noncomputable def RR:Kont U El:=fun st=>normK nmR st (retFin [4] [])
noncomputable def fr0 (n:Net) (s:List UInt8):St U El:=⟨[(0,(.agg [(.lst .node n.nds),(.lst .link n.lks)])),(1,(.str s))],[]⟩
noncomputable def sh0 (n:Net) (s:List UInt8):R :=
  chk (nle (List.length n.lks) 90000) (some ((.int .i64 (findZ (isLink s) 0 n.lks)),[]))
theorem P0 (n s):exec X (cdp [] bd) .d (fr0 n s) RR (fun _ _=>none) RR=sh0 n s:=by kernel_rfl
noncomputable def f0 (n:Net) (s:List UInt8):R:=sh0 n s
theorem T0 (n s):exec X bd .d (fr0 n s) RR (fun _ _=>none) RR=f0 n s:=by
  refine (P0 n s).trans ?_
  show _=sh0 n s
  rfl
theorem run (n s):runFn X bd .d nmR [4] [] [(.agg [(.lst .node n.nds),(.lst .link n.lks)]),(.str s)]=f0 n s:=T0 n s
theorem f0_eq (n:Net) (s:List UInt8) (h:okN n=true):f0 n s=outI (linkZ n s):=by
  show chk _ _=_
  rw [okN_lks h]; rfl
theorem ok:CtxOk Tryz.prog X:=ctxOk tab (spC lk1X.spOk spN) dpN
theorem okM:MOk Tryz.prog X:=fun g sp h=>by cases h
theorem spec (n:Net) (s:List UInt8) (h:(okN n)=true):CallSpec Tryz.prog E 100 [(.agg [(.lst .node n.nds),(.lst .link n.lks)]),(.str s)] (.int .i64 (linkZ n s)) [] :=
  runFn_sound ok okM Tryz.call100 Tryz.func100 (by kernel_rfl) (by kernel_rfl) (by kernel_rfl) (by show 2≤9; decide) (by decide) (by rfl) ((run n s).trans (f0_eq n s h))
noncomputable def sp:Sp U El:=fun args k=>match args with
  | [.agg [.lst .node n_nds,.lst .link n_lks],.str s]=>chk (okN (⟨n_nds,n_lks⟩:Net)) (k (.int .i64 (linkZ (⟨n_nds,n_lks⟩:Net) s)) [])
  | _=>none
theorem spOk:SpOk Tryz.prog E 100 sp where
  det:=fun vs=>by
    unfold sp
    split
    · exact det_c _ _ _
    · exact ⟨none,fun _=>rfl⟩
  ok:=fun vs k r h=>by
    unfold sp at h
    split at h
    · obtain ⟨h1, h2⟩ := chk_some h
      exact ⟨_,_,spec ⟨_,_⟩ _ h1,h2⟩
    · cases h
end nlink
end Go.Proofs.YtlkfbblapimhoaaGreatDoor
