import Derived.Test.YthdimnlkcgchoaaGreatVH
namespace Go.Proofs.YthdimnlkcgchoaaGreat
set_option linter.all false
set_option maxRecDepth 100000
noncomputable def possS (x:Node):Span:=bif x.nk == 3 then ⟨x.ni,x.ni⟩ else ⟨x.ni,x.ng⟩
noncomputable def narC (m:List UInt8) (s:Span) (c:Cnd):Span :=
 bif c.cn == m then (bif c.cb then ⟨s.slo,bif ilt (c.cl - 1) s.shi then c.cl - 1 else s.shi⟩ else ⟨bif ilt s.slo c.cl then c.cl else s.slo,s.shi⟩) else s
noncomputable def nar (m:List UInt8):Span→List Cnd→Span
 | s,[]=>s
 | s,c :: w=>nar m (narC m s c) w
theorem nar_append (m:List UInt8):∀ (w v:List Cnd) (s:Span),nar m s (w++v)=nar m (nar m s w) v:=by
 intro w
 induction w with
 | nil=>intro v s; rfl
 | cons c w ih=>intro v s; exact ih v _
noncomputable def leastO:List Node→List Cnd→Option (List Int)
 | [],_=>some []
 | x :: l,w=>bif ilt (nar x.nn (possS x) w).shi (nar x.nn (possS x) w).slo then none else (leastO l w).map ((nar x.nn (possS x) w).slo :: ·)
noncomputable def leastB (l:List Node) (w:List Cnd):Bool:=(leastO l w).isSome
noncomputable def leastL (l:List Node) (w:List Cnd):List Int:=(leastO l w).getD []
noncomputable def leastR (out:List Int):Option (List Int)→R
 | none=>some (.tup [.ful 0,.bool false],[(0,.rows .int ([]:List Int))])
 | some r=>some (.tup [.ful 0,.bool true],[(0,.rows .int (out++r))])
theorem leastR_map (out:List Int) (x:Int) (o:Option (List Int)):leastR (out++[x]) o=leastR out (o.map (x :: ·)):=by
 cases o with
 | none=>rfl
 | some r=>simp [leastR]
theorem leastR_spec (l:List Node) (w:List Cnd):leastR [] (leastO l w)=some (.tup [.ful 0,.bool (leastB l w)],[(0,.rows .int (leastL l w))]):=by
 unfold leastB leastL
 cases leastO l w<;>rfl
theorem okW_len {w:List Cnd} (h:okW w=true):w.length≤90000:=nleI (Bool.and_eq_true_iff.1 h).1
theorem okW_lev {w:List Cnd} (h:okW w=true):∀ c∈w,IntKind.wrap .i64 (c.cl - 1)=c.cl - 1:=fun c hc=>by
 have:=List.all_eq_true.1 (Bool.and_eq_true_iff.1 h).2 c hc
 simp only [inR,Bool.and_eq_true] at this
 have a:=ileI this.1; have b:=ileI this.2
 exact wrapI (by omega) (by omega)
namespace empty
noncomputable def bd:Code:=(Tryz.f97.body).getD .skip
noncomputable def X:Ctx U El:=⟨E,tds,zeros,eqs,specOf [],100000,8,dspecOf [],fun _=>none,fun _=>none⟩
noncomputable def nmR:Norm U:=⟨[],[2],[],[],[],[],[]⟩
noncomputable def RR:Kont U El:=fun st=>normK nmR st (retFin [2] [])
noncomputable def fr0 (s:Span):St U El:=⟨[(0,(.agg [(.int .i64 s.slo),(.int .i64 s.shi)]))],[]⟩
noncomputable def sh0 (s:Span):R :=
 some ((.bool (ilt s.shi s.slo)),[])
theorem P0 (s):exec X (cdp [] bd) .d (fr0 s) RR (fun _ _=>none) RR=sh0 s:=by kernel_rfl
noncomputable def f0 (s:Span):R:=sh0 s
theorem T0 (s):exec X bd .d (fr0 s) RR (fun _ _=>none) RR=f0 s:=by
 refine (P0 s).trans ?_
 show _=sh0 s
 rfl
theorem run (s):runFn X bd .d nmR [2] [] [(.agg [(.int .i64 s.slo),(.int .i64 s.shi)])]=f0 s:=T0 s
theorem f0_eq (s:Span):f0 s=outB (ilt s.shi s.slo):=rfl
theorem ok:CtxOk Tryz.prog X:=ctxOk tab spN dpN
theorem okM:MOk Tryz.prog X:=fun g sp h=>by cases h
theorem spec (s:Span):CallSpec Tryz.prog E 97 [(.agg [(.int .i64 s.slo),(.int .i64 s.shi)])] (.bool (ilt (Span.shi s) (Span.slo s))) [] :=
 rfs ok okM Tryz.call97 Tryz.func97 ((run s).trans (f0_eq s))
noncomputable def sp:Sp U El:=fun args k=>match args with
 | [.agg [.int .i64 s_slo,.int .i64 s_shi]]=>k (.bool (ilt (Span.shi (⟨s_slo,s_shi⟩:Span)) (Span.slo (⟨s_slo,s_shi⟩:Span)))) []
 | _=>none
theorem spOk:SpOk Tryz.prog E 97 sp:=⟨fun vs=>by unfold sp;split;exact ⟨some (_,_),fun _=>rfl⟩;exact ⟨none,fun _=>rfl⟩,fun vs k r h=>by unfold sp at h;split at h;exact ⟨_,_,spec ⟨_,_⟩,h⟩;cases h⟩
end empty
namespace possible
noncomputable def bd:Code:=(Tryz.f113.body).getD .skip
noncomputable def X:Ctx U El:=⟨E,tds,zeros,eqs,specOf [],100000,16,dspecOf [],fun _=>none,fun _=>none⟩
noncomputable def nmR:Norm U:=⟨[],[16],[],[],[],[],[]⟩
noncomputable def RR:Kont U El:=fun st=>loadRes X 16 [(2,93)] 16 st fun st=>normK nmR st (retFin [16] [])
noncomputable def fr0 (x:Node):St U El:=⟨[(0,(.agg [(.str x.nn),(.int .i64 x.nk),(.int .i64 x.nx),(.int .i64 x.ny),(.int .i64 x.ni),(.int .i64 x.ng),(.lst .knot x.nh),(.bool x.np),(.int .i64 x.nr)]))],[]⟩
noncomputable def sh0 (x:Node):R :=
 condB (x.nk == (3:Int)) (some ((.agg [(.int .i64 x.ni),(.int .i64 x.ni)]),[])) (some ((.agg [(.int .i64 x.ni),(.int .i64 x.ng)]),[]))
theorem P0 (x):exec X (cdp [] bd) .d (fr0 x) RR (fun _ _=>none) RR=sh0 x:=by kernel_rfl
noncomputable def f0 (x:Node):R:=sh0 x
theorem T0 (x):exec X bd .d (fr0 x) RR (fun _ _=>none) RR=f0 x:=by
 refine (P0 x).trans ?_
 show _=sh0 x
 rfl
theorem run (x):runFnC X bd .d nmR [(2,93)] [16] [] [(.agg [(.str x.nn),(.int .i64 x.nk),(.int .i64 x.nx),(.int .i64 x.ny),(.int .i64 x.ni),(.int .i64 x.ng),(.lst .knot x.nh),(.bool x.np),(.int .i64 x.nr)])]=f0 x:=T0 x
theorem f0_eq (x:Node):f0 x=some (.agg [.int .i64 (possS x).slo,.int .i64 (possS x).shi],[]):=by
 show sh0 x=_
 unfold sh0 possS
 cases x.nk == 3<;>rfl
theorem ok:CtxOk Tryz.prog X:=ctxOk tab spN dpN
theorem okM:MOk Tryz.prog X:=fun g sp h=>by cases h
theorem spec (x:Node):CallSpec Tryz.prog E 113 [(.agg [(.str x.nn),(.int .i64 x.nk),(.int .i64 x.nx),(.int .i64 x.ny),(.int .i64 x.ni),(.int .i64 x.ng),(.lst .knot x.nh),(.bool x.np),(.int .i64 x.nr)])] (.agg [(.int .i64 ((possS x).slo)),(.int .i64 ((possS x).shi))]) [] :=
 runFnC_sound ok okM Tryz.call113 Tryz.func113 (by kernel_rfl) (by kernel_rfl) (by kernel_rfl) (by show 1≤16; decide) (by decide) (by rfl) ((run x).trans (f0_eq x))
noncomputable def sp:Sp U El:=fun args k=>match args with
 | [.agg [.str x_nn,.int .i64 x_nk,.int .i64 x_nx,.int .i64 x_ny,.int .i64 x_ni,.int .i64 x_ng,.lst .knot x_nh,.bool x_np,.int .i64 x_nr]]=>k (.agg [(.int .i64 ((possS (⟨x_nn,x_nk,x_nx,x_ny,x_ni,x_ng,x_nh,x_np,x_nr⟩:Node)).slo)),(.int .i64 ((possS (⟨x_nn,x_nk,x_nx,x_ny,x_ni,x_ng,x_nh,x_np,x_nr⟩:Node)).shi))]) []
 | _=>none
theorem spOk:SpOk Tryz.prog E 113 sp:=⟨fun vs=>by unfold sp;split;exact ⟨some (_,_),fun _=>rfl⟩;exact ⟨none,fun _=>rfl⟩,fun vs k r h=>by unfold sp at h;split at h;exact ⟨_,_,spec ⟨_,_,_,_,_,_,_,_,_⟩,h⟩;cases h⟩
end possible
namespace rpossible
noncomputable def bd:Code:=(Tryz.f114.body).getD .skip
noncomputable def X:Ctx U El:=⟨E,tds,zeros,eqs,specOf [],100000,16,dspecOf [],fun _=>none,fun _=>none⟩
noncomputable def nmR:Norm U:=⟨[],[16],[],[],[],[],[]⟩
noncomputable def RR:Kont U El:=fun st=>loadRes X 16 [(2,93)] 16 st fun st=>normK nmR st (retFin [16] [])
noncomputable def fr0 (x:Node):St U El:=⟨[(0,(.agg [(.str x.nn),(.int .i64 x.nk),(.int .i64 x.nx),(.int .i64 x.ny),(.int .i64 x.ni),(.int .i64 x.ng),(.lst .knot x.nh),(.bool x.np),(.int .i64 x.nr)]))],[]⟩
noncomputable def sh0 (x:Node):R :=
 condB (x.nk == (3:Int)) (some ((.agg [(.int .i64 x.ni),(.int .i64 x.ni)]),[])) (some ((.agg [(.int .i64 x.ni),(.int .i64 x.ng)]),[]))
theorem P0 (x):exec X (cdp [] bd) .d (fr0 x) RR (fun _ _=>none) RR=sh0 x:=by kernel_rfl
noncomputable def f0 (x:Node):R:=sh0 x
theorem T0 (x):exec X bd .d (fr0 x) RR (fun _ _=>none) RR=f0 x:=by
 refine (P0 x).trans ?_
 show _=sh0 x
 rfl
theorem run (x):runFnC X bd .d nmR [(2,93)] [16] [] [(.agg [(.str x.nn),(.int .i64 x.nk),(.int .i64 x.nx),(.int .i64 x.ny),(.int .i64 x.ni),(.int .i64 x.ng),(.lst .knot x.nh),(.bool x.np),(.int .i64 x.nr)])]=f0 x:=T0 x
theorem f0_eq (x:Node):f0 x=some (.agg [.int .i64 (possS x).slo,.int .i64 (possS x).shi],[]):=by
 show sh0 x=_
 unfold sh0 possS
 cases x.nk == 3<;>rfl
theorem ok:CtxOk Tryz.prog X:=ctxOk tab spN dpN
theorem okM:MOk Tryz.prog X:=fun g sp h=>by cases h
theorem spec (x:Node):CallSpec Tryz.prog E 114 [(.agg [(.str x.nn),(.int .i64 x.nk),(.int .i64 x.nx),(.int .i64 x.ny),(.int .i64 x.ni),(.int .i64 x.ng),(.lst .knot x.nh),(.bool x.np),(.int .i64 x.nr)])] (.agg [(.int .i64 ((possS x).slo)),(.int .i64 ((possS x).shi))]) [] :=
 runFnC_sound ok okM Tryz.call114 Tryz.func114 (by kernel_rfl) (by kernel_rfl) (by kernel_rfl) (by show 1≤16; decide) (by decide) (by rfl) ((run x).trans (f0_eq x))
noncomputable def sp:Sp U El:=fun args k=>match args with
 | [.agg [.str x_nn,.int .i64 x_nk,.int .i64 x_nx,.int .i64 x_ny,.int .i64 x_ni,.int .i64 x_ng,.lst .knot x_nh,.bool x_np,.int .i64 x_nr]]=>k (.agg [(.int .i64 ((possS (⟨x_nn,x_nk,x_nx,x_ny,x_ni,x_ng,x_nh,x_np,x_nr⟩:Node)).slo)),(.int .i64 ((possS (⟨x_nn,x_nk,x_nx,x_ny,x_ni,x_ng,x_nh,x_np,x_nr⟩:Node)).shi))]) []
 | _=>none
theorem spOk:SpOk Tryz.prog E 114 sp:=⟨fun vs=>by unfold sp;split;exact ⟨some (_,_),fun _=>rfl⟩;exact ⟨none,fun _=>rfl⟩,fun vs k r h=>by unfold sp at h;split at h;exact ⟨_,_,spec ⟨_,_,_,_,_,_,_,_,_⟩,h⟩;cases h⟩
end rpossible
namespace narrowed
noncomputable def bd:Code:=(Tryz.f95.body).getD .skip
noncomputable def X:Ctx U El:=⟨E,tds,zeros,eqs,specOf [],100000,39,dspecOf [],fun _=>none,fun _=>none⟩
noncomputable def nmR:Norm U:=⟨[],[39],[],[],[],[],[]⟩
noncomputable def RR:Kont U El:=fun st=>loadRes X 39 [(6,93)] 39 st fun st=>normK nmR st (retFin [39] [])
noncomputable def nm1:Norm U:=⟨[],[3,6],[3,6],[],[],[],[]⟩
noncomputable def nm2:Norm U:=⟨[],[2,3,6,10,11,12],[3,6],[],[],[],[]⟩
noncomputable def nm3:Norm U:=⟨[],[2,3,6,10,11,12],[3,6],[],[],[],[]⟩
abbrev Y1:=Int→Int→Int→Int→R
abbrev Y2:=(List UInt8)→(List Cnd)→Int→Int→Int→Int→Int→Int→R
abbrev Y3:=(List UInt8)→(List Cnd)→Int→Int→Int→Int→Int→Int→R
noncomputable def fr0 (s:Span) (r:Rule) (m:List UInt8):St U El:=⟨[(0,(.agg [(.int .i64 s.slo),(.int .i64 s.shi)])),(1,(.agg [(.str r.rn),(.lst .cnd r.rw),(.str r.rl),(.int .i64 r.rs)])),(2,(.str m))],[]⟩
noncomputable def fr1 (lA:Int) (mA:Int) (aA:Int) (bA:Int):St U El:=⟨[(3,(.ptr 3 0)),(6,(.ptr 6 0))],[(3,(.box 0 [(.int .i64 lA),(.int .i64 mA)])),(6,(.box 0 [(.int .i64 aA),(.int .i64 bA)]))]⟩
noncomputable def fr2 (gA:List UInt8) (oA:List Cnd) (pA:Int) (nA:Int) (lA:Int) (mA:Int) (aA:Int) (bA:Int):St U El:=⟨[(2,(.str gA)),(3,(.ptr 3 0)),(6,(.ptr 6 0)),(10,(.lst .cnd oA)),(11,(.int .i64 pA)),(12,(.int .i64 nA))],[(3,(.box 0 [(.int .i64 lA),(.int .i64 mA)])),(6,(.box 0 [(.int .i64 aA),(.int .i64 bA)]))]⟩
noncomputable def fr3 (gA:List UInt8) (oA:List Cnd) (pA:Int) (nA:Int) (lA:Int) (mA:Int) (aA:Int) (bA:Int):St U El:=⟨[(2,(.str gA)),(3,(.ptr 3 0)),(6,(.ptr 6 0)),(10,(.lst .cnd oA)),(11,(.int .i64 pA)),(12,(.int .i64 nA))],[(3,(.box 0 [(.int .i64 lA),(.int .i64 mA)])),(6,(.box 0 [(.int .i64 aA),(.int .i64 bA)]))]⟩
noncomputable def sh0 (s:Span) (r:Rule) (m:List UInt8) (k2:Y2):R :=
 k2 m r.rw (Int.ofNat (List.length r.rw)) (0:Int) s.slo s.shi (0:Int) (0:Int)
noncomputable def sh1 (lA:Int) (mA:Int) (aA:Int) (bA:Int):R :=
 some ((.agg [(.int .i64 lA),(.int .i64 mA)]),[])
noncomputable def sh2 (gA:List UInt8) (oA:List Cnd) (pA:Int) (nA:Int) (lA:Int) (mA:Int) (aA:Int) (bA:Int) (k1:Y1) (k3:Y3):R :=
 condB (ilt nA pA) (chk (inb nA (List.length oA)) (condB (!(((List.getD oA (Int.toNat nA) d_cnd).cn) == gA)) (k3 gA oA pA nA lA mA aA bA) (condB ((List.getD oA (Int.toNat nA) d_cnd).cb) (k3 gA oA pA nA lA (bif ilt (IntKind.wrap .i64 ((List.getD oA (Int.toNat nA) d_cnd).cl - (1:Int))) mA then (IntKind.wrap .i64 ((List.getD oA (Int.toNat nA) d_cnd).cl - (1:Int))) else mA) aA bA) (k3 gA oA pA nA (bif ilt lA ((List.getD oA (Int.toNat nA) d_cnd).cl) then (List.getD oA (Int.toNat nA) d_cnd).cl else lA) mA aA bA)))) (k1 lA mA aA bA)
noncomputable def sh3 (gA:List UInt8) (oA:List Cnd) (pA:Int) (nA:Int) (lA:Int) (mA:Int) (aA:Int) (bA:Int) (k2:Y2):R :=
 k2 gA oA pA (IntKind.wrap .i64 (nA+(1:Int))) lA mA aA bA
noncomputable def it2 (Kb1:Kont U El) (n:Nat):Kont U El:=iter nm2 (fun st' K'=>exec X (cdp [1,0,1,0,0] bd) (.seq none .d (.seq none .d (.seq (some nm3) .d .d))) st' K' (Eblk 0 (cutK nm1 Kb1) (fun _ _=>none)) RR) n
noncomputable def ct1:Kont U El:=fun st=>exec X (cdp [1,1] bd) .d st RR (fun _ _=>none) RR
noncomputable def ct3 (Kb1 Kb2:Kont U El):Kont U El:=fun st=>exec X (cdp [1,0,1,0,0,1,1,1] bd) .d st (cutK nm2 Kb2) (Eblk 0 (cutK nm1 Kb1) (fun _ _=>none)) RR
theorem P0 (s r m):exec X (cdp [] bd) (.seq none .d (.seq (some nm1) (.seq none .d (.block (.loop nm2 (.seq none .d (.seq none .d (.seq (some nm3) .d .d)))))) .d)) (fr0 s r m) RR (fun _ _=>none) RR=sh0 s r m (fun y0 y1 y2 y3 y4 y5 y6 y7=>(hid (it2 (hid ct1) 100000)) (fr2 y0 y1 y2 y3 y4 y5 y6 y7)):=by kernel_rfl
theorem P1 (lA mA aA bA):ct1 (fr1 lA mA aA bA)=sh1 lA mA aA bA:=by kernel_rfl
theorem P2 (gA oA pA nA lA mA aA bA) (Kb1 Kb2:Kont U El):exec X (cdp [1,0,1,0,0] bd) (.seq none .d (.seq none .d (.seq (some nm3) .d .d))) (fr2 gA oA pA nA lA mA aA bA) (cutK nm2 Kb2) (Eblk 0 (cutK nm1 Kb1) (fun _ _=>none)) RR=sh2 gA oA pA nA lA mA aA bA (fun y0 y1 y2 y3=>Kb1 (fr1 y0 y1 y2 y3)) (fun y0 y1 y2 y3 y4 y5 y6 y7=>(hid (ct3 Kb1 Kb2)) (fr3 y0 y1 y2 y3 y4 y5 y6 y7)):=by kernel_rfl
theorem P3 (gA oA pA nA lA mA aA bA) (Kb1 Kb2:Kont U El):ct3 Kb1 Kb2 (fr3 gA oA pA nA lA mA aA bA)=sh3 gA oA pA nA lA mA aA bA (fun y0 y1 y2 y3 y4 y5 y6 y7=>Kb2 (fr2 y0 y1 y2 y3 y4 y5 y6 y7)):=by kernel_rfl
noncomputable def f1 (lA:Int) (mA:Int) (aA:Int) (bA:Int):R:=sh1 lA mA aA bA
noncomputable def f3 (k2:Y2) (gA:List UInt8) (oA:List Cnd) (pA:Int) (nA:Int) (lA:Int) (mA:Int) (aA:Int) (bA:Int):R:=sh3 gA oA pA nA lA mA aA bA k2
noncomputable def f2:Nat→Y2
 | 0=>fun _ _ _ _ _ _ _ _=>none
 | n+1=>fun gA oA pA nA lA mA aA bA=>sh2 gA oA pA nA lA mA aA bA f1 (f3 (f2 n))
noncomputable def f0 (s:Span) (r:Rule) (m:List UInt8):R:=sh0 s r m (f2 100000)
theorem T1 (lA mA aA bA):(hid ct1) (fr1 lA mA aA bA)=f1 lA mA aA bA:=by
 refine (congrFun (hid_eq _) _).trans <| (P1 lA mA aA bA).trans ?_
 show _=sh1 lA mA aA bA
 rfl
theorem T3 (KL2:Kont U El) (k2:Y2) (h2:∀ gA oA pA nA lA mA aA bA,KL2 (fr2 gA oA pA nA lA mA aA bA)=k2 gA oA pA nA lA mA aA bA) (gA oA pA nA lA mA aA bA):(hid (ct3 (hid ct1) KL2)) (fr3 gA oA pA nA lA mA aA bA)=f3 k2 gA oA pA nA lA mA aA bA:=by
 refine (congrFun (hid_eq _) _).trans <| (P3 gA oA pA nA lA mA aA bA (hid ct1) KL2).trans ?_
 show _=sh3 gA oA pA nA lA mA aA bA k2
 simp only [h2]
theorem T2:∀ (n:Nat),∀ gA oA pA nA lA mA aA bA,it2 (hid ct1) n (fr2 gA oA pA nA lA mA aA bA)=f2 n gA oA pA nA lA mA aA bA:=by
  intro n
  induction n with
  | zero=>intros; rfl
  | succ n ih =>
    intro gA oA pA nA lA mA aA bA
    refine (P2 gA oA pA nA lA mA aA bA (hid ct1) (it2 (hid ct1) n)).trans ?_
    show _=sh2 gA oA pA nA lA mA aA bA f1 (f3 (f2 n))
    simp only [T1,T3 (it2 (hid ct1) n) (f2 n) ih]
theorem H2 (gA oA pA nA lA mA aA bA):hid (it2 (hid ct1) 100000) (fr2 gA oA pA nA lA mA aA bA)=f2 100000 gA oA pA nA lA mA aA bA:=(congrFun (hid_eq _) _).trans (T2 100000 gA oA pA nA lA mA aA bA)
theorem T0 (s r m):exec X bd (.seq none .d (.seq (some nm1) (.seq none .d (.block (.loop nm2 (.seq none .d (.seq none .d (.seq (some nm3) .d .d)))))) .d)) (fr0 s r m) RR (fun _ _=>none) RR=f0 s r m:=by
 refine (P0 s r m).trans ?_
 show _=sh0 s r m (f2 100000)
 simp only [H2]
theorem run (s r m):runFnC X bd (.seq none .d (.seq (some nm1) (.seq none .d (.block (.loop nm2 (.seq none .d (.seq none .d (.seq (some nm3) .d .d)))))) .d)) nmR [(6,93)] [39] [] [(.agg [(.int .i64 s.slo),(.int .i64 s.shi)]),(.agg [(.str r.rn),(.lst .cnd r.rw),(.str r.rl),(.int .i64 r.rs)]),(.str m)]=f0 s r m:=T0 s r m
theorem loop (m : List UInt8) (w : List Cnd) (hw : okW w = true) : ∀ (n i : Nat) (s : Span), w.length < n + i → i ≤ w.length → f2 n m w (Int.ofNat w.length) (i : Int) s.slo s.shi 0 0 = some (.agg [.int .i64 (nar m s (w.drop i)).slo, .int .i64 (nar m s (w.drop i)).shi], []) := by
  have hl:=okW_len hw
  intro n
  induction n with
  | zero=>intro i s h1 h2; omega
  | succ n ih =>
    intro i s h1 h2
    show sh2 m w (Int.ofNat w.length) (i:Int) s.slo s.shi 0 0 f1 (f3 (f2 n))=_
    unfold sh2
    by_cases hi:i < w.length
    · have hk : ∀ s' : Span, f3 (f2 n) m w (Int.ofNat w.length) (i : Int) s'.slo s'.shi 0 0 = some (.agg [.int .i64 (nar m s' (w.drop (i + 1))).slo, .int .i64 (nar m s' (w.drop (i + 1))).shi], []) := fun s' => by
        show f2 n m w (Int.ofNat w.length) (IntKind.wrap .i64 ((i:Int)+1)) s'.slo s'.shi 0 0=_
        rw [wrapS i (by omega)]
        exact ih (i+1) s' (by omega) hi
      rw [iltT (by simp; omega),inbT hi,toNat_nat,getD_lt hi,drop_lt hi,okW_lev hw _ (List.getElem_mem hi)]
      simp only [condT,chkT,nar]
      unfold narC
      generalize w[i]=c
      cases h1:c.cn == m
      · exact hk s
      · cases h2 : c.cb
        · exact hk ⟨bif ilt s.slo c.cl then c.cl else s.slo,s.shi⟩
        · exact hk ⟨s.slo,bif ilt (c.cl - 1) s.shi then c.cl - 1 else s.shi⟩
    · have : i = w.length := by omega
      subst this
      rw [iltF (by simp),List.drop_length]
      rfl
theorem f0_eq (s:Span) (r:Rule) (m:List UInt8) (h:okW (Rule.rw r)=true):f0 s r m=some (.agg [.int .i64 (nar m s r.rw).slo,.int .i64 (nar m s r.rw).shi],[]) :=
 loop m r.rw h 100000 0 s (by have:=okW_len h; omega) (by omega)
theorem ok:CtxOk Tryz.prog X:=ctxOk tab spN dpN
theorem okM:MOk Tryz.prog X:=fun g sp h=>by cases h
theorem spec (s:Span) (r:Rule) (m:List UInt8) (h:(okW (Rule.rw r))=true):CallSpec Tryz.prog E 95 [(.agg [(.int .i64 s.slo),(.int .i64 s.shi)]),(.agg [(.str r.rn),(.lst .cnd r.rw),(.str r.rl),(.int .i64 r.rs)]),(.str m)] (.agg [(.int .i64 ((nar m s (Rule.rw r)).slo)),(.int .i64 ((nar m s (Rule.rw r)).shi))]) [] :=
 runFnC_sound ok okM Tryz.call95 Tryz.func95 (by kernel_rfl) (by kernel_rfl) (by kernel_rfl) (by show 3≤39; decide) (by decide) (by rfl) ((run s r m).trans (f0_eq s r m h))
noncomputable def sp:Sp U El:=fun args k=>match args with
 | [.agg [.int .i64 s_slo,.int .i64 s_shi],.agg [.str r_rn,.lst .cnd r_rw,.str r_rl,.int .i64 r_rs],.str m]=>chk (okW (Rule.rw (⟨r_rn,r_rw,r_rl,r_rs⟩:Rule))) (k (.agg [(.int .i64 ((nar m (⟨s_slo,s_shi⟩:Span) (Rule.rw (⟨r_rn,r_rw,r_rl,r_rs⟩:Rule))).slo)),(.int .i64 ((nar m (⟨s_slo,s_shi⟩:Span) (Rule.rw (⟨r_rn,r_rw,r_rl,r_rs⟩:Rule))).shi))]) [])
 | _=>none
theorem spOk:SpOk Tryz.prog E 95 sp:=⟨fun vs=>by unfold sp;split;exact det_c _ _ _;exact ⟨none,fun _=>rfl⟩,fun vs k r h=>by unfold sp at h;split at h;(obtain ⟨h1,h2⟩:=chk_some h;exact ⟨_,_,spec ⟨_,_⟩ ⟨_,_,_,_⟩ _ h1,h2⟩);cases h⟩
end narrowed
end Go.Proofs.YthdimnlkcgchoaaGreat
