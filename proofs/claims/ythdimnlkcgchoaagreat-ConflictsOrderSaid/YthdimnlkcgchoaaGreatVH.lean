import Derived.Test.YthdimnlkcgchoaaGreatVG
namespace Go.Proofs.YthdimnlkcgchoaaGreat
set_option linter.all false
set_option maxRecDepth 100000
theorem grun_badV {α Q:Type} (q:Nat→α→Bool) (fin:Unit→Q) (v:Q):∀ (l:List α) (i:Nat),grun (σ:=Unit) (fun _ i x k=>condB (q i x) v (k ())) fin () i l=condB (allI (fun i x => !q i x) i l) (fin ()) v:=by
  intro l
  induction l with
  | nil=>intro i; rfl
  | cons x l ih =>
    intro i
    simp only [grun,allI]
    cases q i x
    · exact ih (i+1)
    · rfl
noncomputable def namesL (n:Net):List (List UInt8):=n.nds.map Node.nn
noncomputable def hasN (n:Net) (s:List UInt8):Bool:=List.any n.nds (isNode s)
noncomputable def knownR (n:Net) (r:Rule):Bool:=!(ilt (linkZ n r.rl) 0)&&List.all r.rw (fun c=>hasN n c.cn)
noncomputable def knownB (l:List Rule) (n:Net):Bool:=List.all l (knownR n)
noncomputable def givenZ (l:List Rule) (n:Net):Int:=bif rulesB l then (bif netB n then (bif knownB l n then 0 else 9) else 1) else 1
theorem findZ_names (s:List UInt8):∀ (l:List Node) (i:Nat),findZ (fun x=>x == s) i (l.map Node.nn)=findZ (isNode s) i l:=by
  intro l
  induction l with
  | nil=>intro i; rfl
  | cons x l ih =>
    intro i
    simp only [List.map_cons,findZ,ih]
    rfl
theorem ilt_ile0 (z:Int):ilt z 0 = !(ile 0 z):=by rw [not_ile]
theorem find_has (n:Net) (s:List UInt8):ilt (findZ (fun x=>x == s) 0 (namesL n)) 0 = !(hasN n s):=by
 unfold namesL hasN
 rw [findZ_names,ilt_ile0,findZ_any]
namespace rfind
noncomputable def bd:Code:=(Tryz.f122.body).getD .skip
noncomputable def X:Ctx U El:=⟨E,tds,zeros,eqs,specOf [],100000,19,dspecOf [],fun _=>none,fun _=>none⟩
noncomputable def nmR:Norm U:=⟨[],[4],[],[],[],[],[]⟩
noncomputable def RR:Kont U El:=fun st=>normK nmR st (retFin [4] [])
noncomputable def nm1:Norm U:=⟨[],[],[],[],[],[],[]⟩
noncomputable def nm2:Norm U:=⟨[],[0,1,5],[],[],[],[],[]⟩
abbrev Y1:=R
abbrev Y2:=(List (List UInt8))→(List UInt8)→Int→R
noncomputable def fr0 (l:List (List UInt8)) (s:List UInt8):St U El:=⟨[(0,(.lst .str l)),(1,(.str s))],[]⟩
noncomputable def fr1:St U El:=⟨[],[]⟩
noncomputable def fr2 (l0:List (List UInt8)) (s1:List UInt8) (i5:Int):St U El:=⟨[(0,(.lst .str l0)),(1,(.str s1)),(5,(.int .i64 i5))],[]⟩
noncomputable def sh0 (l:List (List UInt8)) (s:List UInt8) (k2:Y2):R :=
 k2 l s (0:Int)
noncomputable def sh1:R :=
 some ((.int .i64 (-1:Int)),[])
noncomputable def sh2 (l0:List (List UInt8)) (s1:List UInt8) (i5:Int) (k1:Y1) (k2:Y2):R :=
 condB (ilt i5 (Int.ofNat (List.length l0))) (chk (inb i5 (List.length l0)) (condB ((List.getD l0 (Int.toNat i5) d_str) == s1) (some ((.int .i64 i5),[])) (k2 l0 s1 (IntKind.wrap .i64 (i5+(1:Int)))))) (k1)
noncomputable def it2 (Kb1:Kont U El) (n:Nat):Kont U El:=iter nm2 (fun st' K'=>exec X (cdp [1,0,1,0,0] bd) .d st' K' (Eblk 0 (cutK nm1 Kb1) (fun _ _=>none)) RR) n
noncomputable def ct1:Kont U El:=fun st=>exec X (cdp [1,1] bd) .d st RR (fun _ _=>none) RR
theorem P0 (l s):exec X (cdp [] bd) (.seq none .d (.seq (some nm1) (.seq none .d (.block (.loop nm2 .d))) .d)) (fr0 l s) RR (fun _ _=>none) RR=sh0 l s (fun y0 y1 y2=>(hid (it2 (hid ct1) 100000)) (fr2 y0 y1 y2)):=by kernel_rfl
theorem P1:ct1 (fr1)=sh1:=by kernel_rfl
theorem P2 (l0 s1 i5) (Kb1 Kb2:Kont U El):exec X (cdp [1,0,1,0,0] bd) .d (fr2 l0 s1 i5) (cutK nm2 Kb2) (Eblk 0 (cutK nm1 Kb1) (fun _ _=>none)) RR=sh2 l0 s1 i5 (Kb1 (fr1)) (fun y0 y1 y2=>Kb2 (fr2 y0 y1 y2)):=by kernel_rfl
noncomputable def f1:R:=sh1
noncomputable def f2:Nat→Y2
 | 0=>fun _ _ _=>none
 | n+1=>fun l0 s1 i5=>sh2 l0 s1 i5 f1 (f2 n)
noncomputable def f0 (l:List (List UInt8)) (s:List UInt8):R:=sh0 l s (f2 100000)
theorem T1:(hid ct1) (fr1)=f1:=by
 refine (congrFun (hid_eq _) _).trans <| (P1).trans ?_
 show _=sh1
 rfl
theorem T2:∀ (n:Nat),∀ l0 s1 i5,it2 (hid ct1) n (fr2 l0 s1 i5)=f2 n l0 s1 i5:=by
  intro n
  induction n with
  | zero=>intros; rfl
  | succ n ih =>
    intro l0 s1 i5
    refine (P2 l0 s1 i5 (hid ct1) (it2 (hid ct1) n)).trans ?_
    show _=sh2 l0 s1 i5 f1 (f2 n)
    simp only [T1,ih]
theorem H2 (l0 s1 i5):hid (it2 (hid ct1) 100000) (fr2 l0 s1 i5)=f2 100000 l0 s1 i5:=(congrFun (hid_eq _) _).trans (T2 100000 l0 s1 i5)
theorem T0 (l s):exec X bd (.seq none .d (.seq (some nm1) (.seq none .d (.block (.loop nm2 .d))) .d)) (fr0 l s) RR (fun _ _=>none) RR=f0 l s:=by
 refine (P0 l s).trans ?_
 show _=sh0 l s (f2 100000)
 simp only [H2]
theorem run (l s):runFn X bd (.seq none .d (.seq (some nm1) (.seq none .d (.block (.loop nm2 .d))) .d)) nmR [4] [] [(.lst .str l),(.str s)]=f0 l s:=T0 l s
theorem f0_eq (l:List (List UInt8)) (s:List UInt8) (h:nle (List.length l) 90000=true):f0 l s=outI (findZ (fun x=>x == s) 0 l):=by
 have hl:=nleI h
 refine (grun_eq l (by omega) (fun n_ (_:Unit) i_=>f2 n_ l s i_) _ (fun _=>outI (-1)) (fun n_ u_ i_ hi_=>?_) (fun n_ u_=>?_) 100000 0 () (by omega) (by omega)).trans (grun_find (fun x=>x == s) outI l 0)
 ·show sh2 l s i_ f1 (f2 n_)=_
  unfold sh2
  rw [iltT (by simp; omega),inbT hi_,toNat_nat,getD_lt hi_]
  rfl
 ·show sh2 l s (l.length:Int) f1 (f2 n_)=_
  unfold sh2
  rw [iltF (by simp)]
  rfl
theorem ok:CtxOk Tryz.prog X:=ctxOk tab spN dpN
theorem okM:MOk Tryz.prog X:=fun g sp h=>by cases h
theorem spec (l:List (List UInt8)) (s:List UInt8) (h:(nle (List.length l) 90000)=true):CallSpec Tryz.prog E 122 [(.lst .str l),(.str s)] (.int .i64 (findZ (fun x=>x == s) 0 l)) [] :=
 rfs ok okM Tryz.call122 Tryz.func122 ((run l s).trans (f0_eq l s h))
noncomputable def sp:Sp U El:=fun args k=>match args with
 | [.lst .str l,.str s]=>chk (nle (List.length l) 90000) (k (.int .i64 (findZ (fun x=>x == s) 0 l)) [])
 | _=>none
theorem spOk:SpOk Tryz.prog E 122 sp:=⟨fun vs=>by unfold sp;split;exact det_c _ _ _;exact ⟨none,fun _=>rfl⟩,fun vs k r h=>by unfold sp at h;split at h;(obtain ⟨h1,h2⟩:=chk_some h;exact ⟨_,_,spec _ _ h1,h2⟩);cases h⟩
end rfind
namespace rnames
noncomputable def bd:Code:=(Tryz.f41.body).getD .skip
noncomputable def X:Ctx U El:=⟨E,tds,zeros,eqs,specOf [],100000,22,dspecOf [],fun _=>none,fun _=>none⟩
noncomputable def nmR:Norm U:=⟨[(2,.str)],[2],[2],[],[],[],[]⟩
noncomputable def RR:Kont U El:=fun st=>normK nmR st (retFin [2] [2])
noncomputable def nm1:Norm U:=⟨[(3,.str)],[3],[3],[],[],[],[]⟩
noncomputable def nm2:Norm U:=⟨[(3,.str)],[1,3,4],[3,1],[],[],[],[(1,0,.node),(1,1,.link)]⟩
abbrev Y1:=(List (List UInt8))→R
abbrev Y2:=(List (List UInt8))→Int→(List Node)→(List Lnk)→R
noncomputable def fr0 (n:Net):St U El:=⟨[(0,(.agg [(.lst .node n.nds),(.lst .link n.lks)]))],[]⟩
noncomputable def fr1 (dA:List (List UInt8)):St U El:=⟨[(3,(.ful 3))],[(3,(.rows .str dA))]⟩
noncomputable def fr2 (dA:List (List UInt8)) (i4:Int) (hA:List Node) (iA:List Lnk):St U El:=⟨[(1,(.ptr 1 0)),(3,(.ful 3)),(4,(.int .i64 i4))],[(3,(.rows .str dA)),(1,(.box 0 [(.lst .node hA),(.lst .link iA)]))]⟩
noncomputable def sh0 (n:Net) (k2:Y2):R :=
 k2 ([]:List (List UInt8)) (0:Int) n.nds n.lks
noncomputable def sh1 (dA:List (List UInt8)):R :=
 some ((.ful 0),[(0,.rows .str dA)])
noncomputable def sh2 (dA:List (List UInt8)) (i4:Int) (hA:List Node) (iA:List Lnk) (k1:Y1) (k2:Y2):R :=
 condB (ilt i4 (Int.ofNat (List.length hA))) (chk (inb i4 (List.length hA)) (chk (nle ((List.length dA+List.length ([(List.getD hA (Int.toNat i4) d_node).nn]:List (List UInt8))) * 16) 140737488355328&&nle (List.length dA+List.length ([(List.getD hA (Int.toNat i4) d_node).nn]:List (List UInt8))) 9223372036854775807) (k2 (dA++([(List.getD hA (Int.toNat i4) d_node).nn]:List (List UInt8))) (IntKind.wrap .i64 (i4+(1:Int))) hA iA))) (k1 dA)
noncomputable def it2 (Kb1:Kont U El) (n:Nat):Kont U El:=iter nm2 (fun st' K'=>exec X (cdp [1,1,0,1,0,0] bd) .d st' K' (Eblk 0 (cutK nm1 Kb1) (fun _ _=>none)) RR) n
noncomputable def ct1:Kont U El:=fun st=>exec X (cdp [1,1,1] bd) .d st RR (fun _ _=>none) RR
theorem P0 (n):exec X (cdp [] bd) (.seq none .d (.seq none .d (.seq (some nm1) (.seq none .d (.block (.loop nm2 .d))) .d))) (fr0 n) RR (fun _ _=>none) RR=sh0 n (fun y0 y1 y2 y3=>(hid (it2 (hid ct1) 100000)) (fr2 y0 y1 y2 y3)):=by kernel_rfl
theorem P1 (dA):ct1 (fr1 dA)=sh1 dA:=by kernel_rfl
theorem P2 (dA i4 hA iA) (Kb1 Kb2:Kont U El):exec X (cdp [1,1,0,1,0,0] bd) .d (fr2 dA i4 hA iA) (cutK nm2 Kb2) (Eblk 0 (cutK nm1 Kb1) (fun _ _=>none)) RR=sh2 dA i4 hA iA (fun y0=>Kb1 (fr1 y0)) (fun y0 y1 y2 y3=>Kb2 (fr2 y0 y1 y2 y3)):=by kernel_rfl
noncomputable def f1 (dA:List (List UInt8)):R:=sh1 dA
noncomputable def f2:Nat→Y2
 | 0=>fun _ _ _ _=>none
 | n+1=>fun dA i4 hA iA=>sh2 dA i4 hA iA f1 (f2 n)
noncomputable def f0 (n:Net):R:=sh0 n (f2 100000)
theorem T1 (dA):(hid ct1) (fr1 dA)=f1 dA:=by
 refine (congrFun (hid_eq _) _).trans <| (P1 dA).trans ?_
 show _=sh1 dA
 rfl
theorem T2:∀ (n:Nat),∀ dA i4 hA iA,it2 (hid ct1) n (fr2 dA i4 hA iA)=f2 n dA i4 hA iA:=by
  intro n
  induction n with
  | zero=>intros; rfl
  | succ n ih =>
    intro dA i4 hA iA
    refine (P2 dA i4 hA iA (hid ct1) (it2 (hid ct1) n)).trans ?_
    show _=sh2 dA i4 hA iA f1 (f2 n)
    simp only [T1,ih]
theorem H2 (dA i4 hA iA):hid (it2 (hid ct1) 100000) (fr2 dA i4 hA iA)=f2 100000 dA i4 hA iA:=(congrFun (hid_eq _) _).trans (T2 100000 dA i4 hA iA)
theorem T0 (n):exec X bd (.seq none .d (.seq none .d (.seq (some nm1) (.seq none .d (.block (.loop nm2 .d))) .d))) (fr0 n) RR (fun _ _=>none) RR=f0 n:=by
 refine (P0 n).trans ?_
 show _=sh0 n (f2 100000)
 simp only [H2]
theorem run (n):runFn X bd (.seq none .d (.seq none .d (.seq (some nm1) (.seq none .d (.block (.loop nm2 .d))) .d))) nmR [2] [2] [(.agg [(.lst .node n.nds),(.lst .link n.lks)])]=f0 n:=T0 n
theorem loop (nds:List Node) (lks:List Lnk) (hl:nds.length≤90000):∀ (n i:Nat),nds.length < n+i→i≤nds.length→f2 n ((nds.take i).map Node.nn) (i:Int) nds lks=some (.ful 0,[(0,.rows .str (nds.map Node.nn))]):=by
  intro n
  induction n with
  | zero=>intro i h1 h2; omega
  | succ n ih =>
    intro i h1 h2
    show sh2 ((nds.take i).map Node.nn) (i:Int) nds lks f1 (f2 n)=_
    unfold sh2
    by_cases hi:i < nds.length
    · rw [iltT (by simp; omega), inbT hi, toNat_nat, getD_lt hi, wrapS i (by omega)]
      have e:∀ x:Node,((nds.take i).map Node.nn)++([x.nn]:List (List UInt8))=((nds.take i)++[x]).map Node.nn:=fun x=>by simp
      rw [e,← take_lt hi,ih (i+1) (by omega) hi]
      rw [nleT (show _≤140737488355328 by simp; omega),nleT (show _≤9223372036854775807 by simp; omega)]
      rfl
    · have : i = nds.length := by omega
      subst this
      rw [iltF (by simp),List.take_length]
      rfl
theorem f0_eq (n:Net) (h:okN n=true):f0 n=some (.ful 0,[(0,.rows .str (namesL n))]):=by
 have hl:=nleI (okN_nds h)
 exact loop n.nds n.lks hl 100000 0 (by omega) (by omega)
theorem ok:CtxOk Tryz.prog X:=ctxOk tab spN dpN
theorem okM:MOk Tryz.prog X:=fun g sp h=>by cases h
theorem spec (n:Net) (h:(okN n)=true):CallSpec Tryz.prog E 41 [(.agg [(.lst .node n.nds),(.lst .link n.lks)])] (.ful 0) [(0,.rows .str (namesL n))] :=
 rfs ok okM Tryz.call41 Tryz.func41 ((run n).trans (f0_eq n h))
noncomputable def sp:Sp U El:=fun args k=>match args with
 | [.agg [.lst .node n_nds,.lst .link n_lks]]=>chk (okN (⟨n_nds,n_lks⟩:Net)) (k (.ful 0) [(0,.rows .str (namesL (⟨n_nds,n_lks⟩:Net)))])
 | _=>none
theorem spOk:SpOk Tryz.prog E 41 sp:=⟨fun vs=>by unfold sp;split;exact det_c _ _ _;exact ⟨none,fun _=>rfl⟩,fun vs k r h=>by unfold sp at h;split at h;(obtain ⟨h1,h2⟩:=chk_some h;exact ⟨_,_,spec ⟨_,_⟩ h1,h2⟩);cases h⟩
end rnames
namespace rknown
noncomputable def bd:Code:=(Tryz.f107.body).getD .skip
noncomputable def X:Ctx U El:=⟨E,tds,zeros,eqs,specOf [(41,rnames.sp),(76,rfindLink.sp),(122,rfind.sp)],100000,46,dspecOf [],fun _=>none,fun _=>none⟩
noncomputable def nmR:Norm U:=⟨[],[4],[],[],[],[],[]⟩
noncomputable def RR:Kont U El:=fun st=>normK nmR st (retFin [4] [])
noncomputable def nm1:Norm U:=⟨[],[],[],[],[],[],[]⟩
noncomputable def nm2:Norm U:=⟨[(5,.str)],[0,3,5,6],[5,3],[],[],[],[(3,0,.node),(3,1,.link)]⟩
noncomputable def nm3:Norm U:=⟨[(5,.str)],[0,3,5,6],[5,3],[],[],[],[(3,0,.node),(3,1,.link)]⟩
noncomputable def nm4:Norm U:=⟨[(5,.str)],[0,3,5,6,7],[5,3],[],[],[],[(3,0,.node),(3,1,.link)]⟩
abbrev Y1:=R
abbrev Y2:=(List Rule)→(List (List UInt8))→Int→(List Node)→(List Lnk)→R
abbrev Y3:=(List Rule)→(List (List UInt8))→Int→(List Node)→(List Lnk)→R
abbrev Y4:=(List Rule)→(List (List UInt8))→Int→Int→(List Node)→(List Lnk)→R
noncomputable def fr0 (l:List Rule) (n:Net):St U El:=⟨[(0,(.lst .rule l)),(1,(.agg [(.lst .node n.nds),(.lst .link n.lks)]))],[]⟩
noncomputable def fr1:St U El:=⟨[],[]⟩
noncomputable def fr2 (l0:List Rule) (cA:List (List UInt8)) (i6:Int) (aA:List Node) (bA:List Lnk):St U El:=⟨[(0,(.lst .rule l0)),(3,(.ptr 3 0)),(5,(.ful 5)),(6,(.int .i64 i6))],[(5,(.rows .str cA)),(3,(.box 0 [(.lst .node aA),(.lst .link bA)]))]⟩
noncomputable def fr3 (l0:List Rule) (cA:List (List UInt8)) (i6:Int) (aA:List Node) (bA:List Lnk):St U El:=⟨[(0,(.lst .rule l0)),(3,(.ptr 3 0)),(5,(.ful 5)),(6,(.int .i64 i6))],[(5,(.rows .str cA)),(3,(.box 0 [(.lst .node aA),(.lst .link bA)]))]⟩
noncomputable def fr4 (l0:List Rule) (cA:List (List UInt8)) (i6:Int) (jA:Int) (aA:List Node) (bA:List Lnk):St U El:=⟨[(0,(.lst .rule l0)),(3,(.ptr 3 0)),(5,(.ful 5)),(6,(.int .i64 i6)),(7,(.int .i64 jA))],[(5,(.rows .str cA)),(3,(.box 0 [(.lst .node aA),(.lst .link bA)]))]⟩
noncomputable def sh0 (l:List Rule) (n:Net) (k2:Y2):R :=
 chk (okN n) (k2 l (namesL n) (0:Int) n.nds n.lks)
noncomputable def sh1:R :=
 some ((.bool true),[])
noncomputable def sh2 (l0:List Rule) (cA:List (List UInt8)) (i6:Int) (aA:List Node) (bA:List Lnk) (k1:Y1) (k4:Y4):R :=
 condB (ilt i6 (Int.ofNat (List.length l0))) (chk (inb i6 (List.length l0)) (chk (okN (⟨aA,bA⟩:Net)) (condB (ilt (linkZ (⟨aA,bA⟩:Net) ((List.getD l0 (Int.toNat i6) d_rule).rl)) (0:Int)) (some ((.bool false),[])) (k4 l0 cA i6 (0:Int) aA bA)))) (k1)
noncomputable def sh3 (l0:List Rule) (cA:List (List UInt8)) (i6:Int) (aA:List Node) (bA:List Lnk) (k2:Y2):R :=
 k2 l0 cA (IntKind.wrap .i64 (i6+(1:Int))) aA bA
noncomputable def sh4 (l0:List Rule) (cA:List (List UInt8)) (i6:Int) (jA:Int) (aA:List Node) (bA:List Lnk) (k3:Y3) (k4:Y4):R :=
 chk (inb i6 (List.length l0)) (condB (ilt jA (Int.ofNat (List.length ((List.getD l0 (Int.toNat i6) d_rule).rw)))) (chk (inb i6 (List.length l0)) (chk (inb jA (List.length ((List.getD l0 (Int.toNat i6) d_rule).rw))) (chk (nle (List.length cA) 90000) (condB (ilt (findZ (fun x=>x == ((List.getD ((List.getD l0 (Int.toNat i6) d_rule).rw) (Int.toNat jA) d_cnd).cn)) 0 cA) (0:Int)) (some ((.bool false),[])) (k4 l0 cA i6 (IntKind.wrap .i64 (jA+(1:Int))) aA bA))))) (k3 l0 cA i6 aA bA))
noncomputable def it2 (Kb1:Kont U El) (n:Nat):Kont U El:=iter nm2 (fun st' K'=>exec X (cdp [1,1,0,1,0,0] bd) (.seq none .d (.seq (some nm3) (.block (.seq none .d (.seq none .d (.block (.loop nm4 .d))))) .d)) st' K' (Eblk 0 (cutK nm1 Kb1) (fun _ _=>none)) RR) n
noncomputable def it4 (Kb1 Kb3:Kont U El) (n:Nat):Kont U El:=iter nm4 (fun st' K'=>exec X (cdp [1,1,0,1,0,0,1,0,0,1,1,0,0] bd) .d st' K' (Eblk 2 (cutK nm3 Kb3) (Eblk 1 (cutK nm3 Kb3) (Eblk 0 (cutK nm1 Kb1) (fun _ _=>none)))) RR) n
noncomputable def ct1:Kont U El:=fun st=>exec X (cdp [1,1,1] bd) .d st RR (fun _ _=>none) RR
noncomputable def ct3 (Kb1 Kb2:Kont U El):Kont U El:=fun st=>exec X (cdp [1,1,0,1,0,0,1,1] bd) .d st (cutK nm2 Kb2) (Eblk 0 (cutK nm1 Kb1) (fun _ _=>none)) RR
theorem P0 (l n):exec X (cdp [] bd) (.seq none .d (.seq none .d (.seq (some nm1) (.seq none .d (.block (.loop nm2 (.seq none .d (.seq (some nm3) (.block (.seq none .d (.seq none .d (.block (.loop nm4 .d))))) .d))))) .d))) (fr0 l n) RR (fun _ _=>none) RR=sh0 l n (fun y0 y1 y2 y3 y4=>(hid (it2 (hid ct1) 100000)) (fr2 y0 y1 y2 y3 y4)):=by kernel_rfl
theorem P1:ct1 (fr1)=sh1:=by kernel_rfl
theorem P2 (l0 cA i6 aA bA) (Kb1 Kb2:Kont U El):exec X (cdp [1,1,0,1,0,0] bd) (.seq none .d (.seq (some nm3) (.block (.seq none .d (.seq none .d (.block (.loop nm4 .d))))) .d)) (fr2 l0 cA i6 aA bA) (cutK nm2 Kb2) (Eblk 0 (cutK nm1 Kb1) (fun _ _=>none)) RR=sh2 l0 cA i6 aA bA (Kb1 (fr1)) (fun y0 y1 y2 y3 y4 y5=>(hid (it4 Kb1 (hid (ct3 Kb1 Kb2)) 100000)) (fr4 y0 y1 y2 y3 y4 y5)):=by kernel_rfl
theorem P3 (l0 cA i6 aA bA) (Kb1 Kb2:Kont U El):ct3 Kb1 Kb2 (fr3 l0 cA i6 aA bA)=sh3 l0 cA i6 aA bA (fun y0 y1 y2 y3 y4=>Kb2 (fr2 y0 y1 y2 y3 y4)):=by kernel_rfl
theorem P4 (l0 cA i6 jA aA bA) (Kb1 Kb3 Kb4:Kont U El):exec X (cdp [1,1,0,1,0,0,1,0,0,1,1,0,0] bd) .d (fr4 l0 cA i6 jA aA bA) (cutK nm4 Kb4) (Eblk 2 (cutK nm3 Kb3) (Eblk 1 (cutK nm3 Kb3) (Eblk 0 (cutK nm1 Kb1) (fun _ _=>none)))) RR=sh4 l0 cA i6 jA aA bA (fun y0 y1 y2 y3 y4=>Kb3 (fr3 y0 y1 y2 y3 y4)) (fun y0 y1 y2 y3 y4 y5=>Kb4 (fr4 y0 y1 y2 y3 y4 y5)):=by kernel_rfl
noncomputable def f1:R:=sh1
noncomputable def f3 (k2:Y2) (l0:List Rule) (cA:List (List UInt8)) (i6:Int) (aA:List Node) (bA:List Lnk):R:=sh3 l0 cA i6 aA bA k2
noncomputable def f4 (k2:Y2):Nat→Y4
 | 0=>fun _ _ _ _ _ _=>none
 | n+1=>fun l0 cA i6 jA aA bA=>sh4 l0 cA i6 jA aA bA (f3 k2) (f4 k2 n)
noncomputable def f2:Nat→Y2
 | 0=>fun _ _ _ _ _=>none
 | n+1=>fun l0 cA i6 aA bA=>sh2 l0 cA i6 aA bA f1 (f4 (f2 n) 100000)
noncomputable def f0 (l:List Rule) (n:Net):R:=sh0 l n (f2 100000)
theorem T1:(hid ct1) (fr1)=f1:=by
 refine (congrFun (hid_eq _) _).trans <| (P1).trans ?_
 show _=sh1
 rfl
theorem T3 (KL2:Kont U El) (k2:Y2) (h2:∀ l0 cA i6 aA bA,KL2 (fr2 l0 cA i6 aA bA)=k2 l0 cA i6 aA bA) (l0 cA i6 aA bA):(hid (ct3 (hid ct1) KL2)) (fr3 l0 cA i6 aA bA)=f3 k2 l0 cA i6 aA bA:=by
 refine (congrFun (hid_eq _) _).trans <| (P3 l0 cA i6 aA bA (hid ct1) KL2).trans ?_
 show _=sh3 l0 cA i6 aA bA k2
 simp only [h2]
theorem T4 (KL2:Kont U El) (k2:Y2) (h2:∀ l0 cA i6 aA bA,KL2 (fr2 l0 cA i6 aA bA)=k2 l0 cA i6 aA bA):∀ (n:Nat),∀ l0 cA i6 jA aA bA,it4 (hid ct1) (hid (ct3 (hid ct1) KL2)) n (fr4 l0 cA i6 jA aA bA)=f4 k2 n l0 cA i6 jA aA bA:=by
  intro n
  induction n with
  | zero=>intros; rfl
  | succ n ih =>
    intro l0 cA i6 jA aA bA
    refine (P4 l0 cA i6 jA aA bA (hid ct1) (hid (ct3 (hid ct1) KL2)) (it4 (hid ct1) (hid (ct3 (hid ct1) KL2)) n)).trans ?_
    show _=sh4 l0 cA i6 jA aA bA (f3 k2) (f4 k2 n)
    simp only [T3 KL2 k2 h2,ih]
theorem H4 (KL2:Kont U El) (k2:Y2) (h2:∀ l0 cA i6 aA bA,KL2 (fr2 l0 cA i6 aA bA)=k2 l0 cA i6 aA bA) (l0 cA i6 jA aA bA):hid (it4 (hid ct1) (hid (ct3 (hid ct1) KL2)) 100000) (fr4 l0 cA i6 jA aA bA)=f4 k2 100000 l0 cA i6 jA aA bA:=(congrFun (hid_eq _) _).trans (T4 KL2 k2 h2 100000 l0 cA i6 jA aA bA)
theorem T2:∀ (n:Nat),∀ l0 cA i6 aA bA,it2 (hid ct1) n (fr2 l0 cA i6 aA bA)=f2 n l0 cA i6 aA bA:=by
  intro n
  induction n with
  | zero=>intros; rfl
  | succ n ih =>
    intro l0 cA i6 aA bA
    refine (P2 l0 cA i6 aA bA (hid ct1) (it2 (hid ct1) n)).trans ?_
    show _=sh2 l0 cA i6 aA bA f1 (f4 (f2 n) 100000)
    simp only [T1,H4 (it2 (hid ct1) n) (f2 n) ih]
theorem H2 (l0 cA i6 aA bA):hid (it2 (hid ct1) 100000) (fr2 l0 cA i6 aA bA)=f2 100000 l0 cA i6 aA bA:=(congrFun (hid_eq _) _).trans (T2 100000 l0 cA i6 aA bA)
theorem T0 (l n):exec X bd (.seq none .d (.seq none .d (.seq (some nm1) (.seq none .d (.block (.loop nm2 (.seq none .d (.seq (some nm3) (.block (.seq none .d (.seq none .d (.block (.loop nm4 .d))))) .d))))) .d))) (fr0 l n) RR (fun _ _=>none) RR=f0 l n:=by
 refine (P0 l n).trans ?_
 show _=sh0 l n (f2 100000)
 simp only [H2]
theorem run (l n):runFn X bd (.seq none .d (.seq none .d (.seq (some nm1) (.seq none .d (.block (.loop nm2 (.seq none .d (.seq (some nm3) (.block (.seq none .d (.seq none .d (.block (.loop nm4 .d))))) .d))))) .d))) nmR [4] [] [(.lst .rule l),(.agg [(.lst .node n.nds),(.lst .link n.lks)])]=f0 l n:=T0 l n
theorem inner (l:List Rule) (n0:Net) (hn:nle (namesL n0).length 90000=true) (k2:List Rule→List (List UInt8)→Int→List Node→List Lnk→R) (i:Nat) (hi:i < l.length) (hw:l[i].rw.length≤90000) :
  f4 k2 100000 l (namesL n0) (i:Int) 0 n0.nds n0.lks=condB (List.all l[i].rw (fun c=>hasN n0 c.cn)) (k2 l (namesL n0) (IntKind.wrap .i64 ((i:Int)+1)) n0.nds n0.lks) (outB false):=by
 refine (grun_eq l[i].rw (by omega) (fun n_ (_:Unit) i_=>f4 k2 n_ l (namesL n0) (i:Int) i_ n0.nds n0.lks) (fun u i x k=>condB (!(hasN n0 x.cn)) (outB false) (k u)) (fun _=>k2 l (namesL n0) (IntKind.wrap .i64 ((i:Int)+1)) n0.nds n0.lks) (fun n_ u_ i_ hi_=>?_) (fun n_ u_=>?_) 100000 0 () (by omega) (by omega)).trans ((grun_badV (fun _ x=>!(hasN n0 x.cn)) _ (outB false) l[i].rw 0).trans ?_)
 ·show sh4 l (namesL n0) (i:Int) (i_:Int) n0.nds n0.lks (f3 k2) (f4 k2 n_)=_
  unfold sh4
  rw [inbT hi,toNat_nat,getD_lt hi,iltT (by simp; omega),inbT hi_,toNat_nat,getD_lt hi_,hn,find_has]
  rfl
 ·show sh4 l (namesL n0) (i:Int) (l[i].rw.length:Int) n0.nds n0.lks (f3 k2) (f4 k2 n_)=_
  unfold sh4
  rw [inbT hi,toNat_nat,getD_lt hi,iltF (by simp)]
  rfl
 ·simp only [Bool.not_not,allI_all]
theorem f0_eq (l:List Rule) (n:Net) (h:(okN n&&okR l)=true):f0 l n=outB (knownB l n):=by
 simp only [Bool.and_eq_true] at h
 obtain ⟨h1,h2⟩:=h
 have h3:=h2
 simp only [okR,Bool.and_eq_true] at h3
 have hl:=nleI h3.1
 have hw:=List.all_eq_true.1 h3.2
 have hn:nle (namesL n).length 90000=true:=by
  have:=nleI (okN_nds h1)
  exact nleT (by simpa [namesL] using this)
 show sh0 l n (f2 100000)=_
 unfold sh0
 rw [h1]
 refine (grun_eq l (by omega) (fun n_ (_:Unit) i_=>f2 n_ l (namesL n) i_ n.nds n.lks) (fun u i x k=>condB (!(knownR n x)) (outB false) (k u)) (fun _=>outB true) (fun n_ u_ i_ hi_=>?_) (fun n_ u_=>?_) 100000 0 () (by omega) (by omega)).trans ((grun_badV (fun _ x=>!(knownR n x)) _ (outB false) l 0).trans ?_)
 ·show sh2 l (namesL n) (i_:Int) n.nds n.lks f1 (f4 (f2 n_) 100000)=_
  unfold sh2
  have e:=inner l n hn (f2 n_) i_ hi_ (nleI (hw _ (List.getElem_mem hi_)))
  have h1':okN (⟨n.nds,n.lks⟩:Net)=true:=h1
  rw [iltT (by simp; omega),inbT hi_,toNat_nat,getD_lt hi_,h1',e]
  show condB (ilt (linkZ n l[i_].rl) 0) (outB false) _=_
  unfold knownR
  cases ilt (linkZ n l[i_].rl) 0<;>cases List.all l[i_].rw (fun c=>hasN n c.cn)<;>rfl
 ·show sh2 l (namesL n) (l.length:Int) n.nds n.lks f1 (f4 (f2 n_) 100000)=_
  unfold sh2
  rw [iltF (by simp)]
  rfl
 ·simp only [Bool.not_not,allI_all]
  unfold knownB
  cases List.all l (knownR n)<;>rfl
theorem ok:CtxOk Tryz.prog X:=ctxOk tab (spC rnames.spOk (spC rfindLink.spOk (spC rfind.spOk spN))) dpN
theorem okM:MOk Tryz.prog X:=fun g sp h=>by cases h
theorem spec (l:List Rule) (n:Net) (h:((okN n&&okR l))=true):CallSpec Tryz.prog E 107 [(.lst .rule l),(.agg [(.lst .node n.nds),(.lst .link n.lks)])] (.bool (knownB l n)) [] :=
 rfs ok okM Tryz.call107 Tryz.func107 ((run l n).trans (f0_eq l n h))
noncomputable def sp:Sp U El:=fun args k=>match args with
 | [.lst .rule l,.agg [.lst .node n_nds,.lst .link n_lks]]=>chk ((okN (⟨n_nds,n_lks⟩:Net)&&okR l)) (k (.bool (knownB l (⟨n_nds,n_lks⟩:Net))) [])
 | _=>none
theorem spOk:SpOk Tryz.prog E 107 sp:=⟨fun vs=>by unfold sp;split;exact det_c _ _ _;exact ⟨none,fun _=>rfl⟩,fun vs k r h=>by unfold sp at h;split at h;(obtain ⟨h1,h2⟩:=chk_some h;exact ⟨_,_,spec _ ⟨_,_⟩ h1,h2⟩);cases h⟩
end rknown
namespace rgiven
noncomputable def bd:Code:=(Tryz.f53.body).getD .skip
noncomputable def X:Ctx U El:=⟨E,tds,zeros,eqs,specOf [(38,rnvalid.sp),(106,rvalid.sp),(107,rknown.sp)],100000,17,dspecOf [],fun _=>none,fun _=>none⟩
noncomputable def nmR:Norm U:=⟨[],[4],[],[],[],[],[]⟩
noncomputable def RR:Kont U El:=fun st=>normK nmR st (retFin [4] [])
noncomputable def nm1:Norm U:=⟨[],[0,3],[3],[],[],[],[(3,0,.node),(3,1,.link)]⟩
abbrev Y1:=(List Rule)→(List Node)→(List Lnk)→R
noncomputable def fr0 (l:List Rule) (n:Net):St U El:=⟨[(0,(.lst .rule l)),(1,(.agg [(.lst .node n.nds),(.lst .link n.lks)]))],[]⟩
noncomputable def fr1 (l0:List Rule) (aA:List Node) (bA:List Lnk):St U El:=⟨[(0,(.lst .rule l0)),(3,(.ptr 3 0))],[(3,(.box 0 [(.lst .node aA),(.lst .link bA)]))]⟩
noncomputable def sh0 (l:List Rule) (n:Net) (k1:Y1):R :=
 condB (!(rulesB l)) (some ((.int .i64 (1:Int)),[])) (chk (okN n) (condB (!(netB n)) (some ((.int .i64 (1:Int)),[])) (k1 l n.nds n.lks)))
noncomputable def sh1 (l0:List Rule) (aA:List Node) (bA:List Lnk):R :=
 chk ((okN (⟨aA,bA⟩:Net)&&okR l0)) (condB (!(knownB l0 (⟨aA,bA⟩:Net))) (some ((.int .i64 (9:Int)),[])) (some ((.int .i64 (0:Int)),[])))
noncomputable def ct1:Kont U El:=fun st=>exec X (cdp [1,1] bd) .d st RR (fun _ _=>none) RR
theorem P0 (l n):exec X (cdp [] bd) (.seq none .d (.seq (some nm1) .d .d)) (fr0 l n) RR (fun _ _=>none) RR=sh0 l n (fun y0 y1 y2=>(hid ct1) (fr1 y0 y1 y2)):=by kernel_rfl
theorem P1 (l0 aA bA):ct1 (fr1 l0 aA bA)=sh1 l0 aA bA:=by kernel_rfl
noncomputable def f1 (l0:List Rule) (aA:List Node) (bA:List Lnk):R:=sh1 l0 aA bA
noncomputable def f0 (l:List Rule) (n:Net):R:=sh0 l n f1
theorem T1 (l0 aA bA):(hid ct1) (fr1 l0 aA bA)=f1 l0 aA bA:=by
 refine (congrFun (hid_eq _) _).trans <| (P1 l0 aA bA).trans ?_
 show _=sh1 l0 aA bA
 rfl
theorem T0 (l n):exec X bd (.seq none .d (.seq (some nm1) .d .d)) (fr0 l n) RR (fun _ _=>none) RR=f0 l n:=by
 refine (P0 l n).trans ?_
 show _=sh0 l n f1
 simp only [T1]
theorem run (l n):runFn X bd (.seq none .d (.seq (some nm1) .d .d)) nmR [4] [] [(.lst .rule l),(.agg [(.lst .node n.nds),(.lst .link n.lks)])]=f0 l n:=T0 l n
theorem f0_eq (l:List Rule) (n:Net) (h:okN n=true):f0 l n=outI (givenZ l n):=by
  show sh0 l n f1=_
  unfold sh0 givenZ
  cases hr:rulesB l with
  | false=>rfl
  | true =>
    rw [h]
    cases netB n with
    | false=>rfl
    | true =>
      show sh1 l n.nds n.lks=_
      unfold sh1
      have h1':okN (⟨n.nds,n.lks⟩:Net)=true:=h
      rw [h1',rulesB_okR hr]
      show condB (!(knownB l n)) (outI 9) (outI 0)=_
      cases knownB l n<;>rfl
theorem ok:CtxOk Tryz.prog X:=ctxOk tab (spC rnvalid.spOk (spC rvalid.spOk (spC rknown.spOk spN))) dpN
theorem okM:MOk Tryz.prog X:=fun g sp h=>by cases h
theorem spec (l:List Rule) (n:Net) (h:(okN n)=true):CallSpec Tryz.prog E 53 [(.lst .rule l),(.agg [(.lst .node n.nds),(.lst .link n.lks)])] (.int .i64 (givenZ l n)) [] :=
 rfs ok okM Tryz.call53 Tryz.func53 ((run l n).trans (f0_eq l n h))
noncomputable def sp:Sp U El:=fun args k=>match args with
 | [.lst .rule l,.agg [.lst .node n_nds,.lst .link n_lks]]=>chk (okN (⟨n_nds,n_lks⟩:Net)) (k (.int .i64 (givenZ l (⟨n_nds,n_lks⟩:Net))) [])
 | _=>none
theorem spOk:SpOk Tryz.prog E 53 sp:=⟨fun vs=>by unfold sp;split;exact det_c _ _ _;exact ⟨none,fun _=>rfl⟩,fun vs k r h=>by unfold sp at h;split at h;(obtain ⟨h1,h2⟩:=chk_some h;exact ⟨_,_,spec _ ⟨_,_⟩ h1,h2⟩);cases h⟩
end rgiven
namespace given
noncomputable def bd:Code:=(Tryz.f62.body).getD .skip
noncomputable def X:Ctx U El:=⟨E,tds,zeros,eqs,specOf [(57,gv1C.sp),(70,nLink.sp),(85,valid.sp),(102,nvalid.sp)],100000,48,dspecOf [],fun _=>none,fun _=>none⟩
noncomputable def nmR:Norm U:=⟨[],[4],[],[],[],[],[]⟩
noncomputable def RR:Kont U El:=fun st=>normK nmR st (retFin [4] [])
noncomputable def nm1:Norm U:=⟨[],[0,3],[3],[],[],[],[(3,0,.node),(3,1,.link)]⟩
noncomputable def nm2:Norm U:=⟨[],[],[],[],[],[],[]⟩
noncomputable def nm3:Norm U:=⟨[],[3,19,20,21],[3],[],[],[],[(3,0,.node),(3,1,.link)]⟩
noncomputable def nm4:Norm U:=⟨[],[3,19,20,21],[3],[],[],[],[(3,0,.node),(3,1,.link)]⟩
noncomputable def nm5:Norm U:=⟨[],[3,19,20,21,35,36,37],[3],[],[],[],[(3,0,.node),(3,1,.link)]⟩
abbrev Y1:=(List Rule)→(List Node)→(List Lnk)→R
abbrev Y2:=R
abbrev Y3:=(List Rule)→Int→Int→(List Node)→(List Lnk)→R
abbrev Y4:=(List Rule)→Int→Int→(List Node)→(List Lnk)→R
abbrev Y5:=(List Rule)→Int→Int→(List Cnd)→Int→Int→(List Node)→(List Lnk)→R
noncomputable def fr0 (l:List Rule) (n:Net):St U El:=⟨[(0,(.lst .rule l)),(1,(.agg [(.lst .node n.nds),(.lst .link n.lks)]))],[]⟩
noncomputable def fr1 (l0:List Rule) (aA:List Node) (bA:List Lnk):St U El:=⟨[(0,(.lst .rule l0)),(3,(.ptr 3 0))],[(3,(.box 0 [(.lst .node aA),(.lst .link bA)]))]⟩
noncomputable def fr2:St U El:=⟨[],[]⟩
noncomputable def fr3 (fA:List Rule) (gA:Int) (eA:Int) (aA:List Node) (bA:List Lnk):St U El:=⟨[(3,(.ptr 3 0)),(19,(.lst .rule fA)),(20,(.int .i64 gA)),(21,(.int .i64 eA))],[(3,(.box 0 [(.lst .node aA),(.lst .link bA)]))]⟩
noncomputable def fr4 (fA:List Rule) (gA:Int) (eA:Int) (aA:List Node) (bA:List Lnk):St U El:=⟨[(3,(.ptr 3 0)),(19,(.lst .rule fA)),(20,(.int .i64 gA)),(21,(.int .i64 eA))],[(3,(.box 0 [(.lst .node aA),(.lst .link bA)]))]⟩
noncomputable def fr5 (fA:List Rule) (gA:Int) (eA:Int) (lA:List Cnd) (mA:Int) (kA:Int) (aA:List Node) (bA:List Lnk):St U El:=⟨[(3,(.ptr 3 0)),(19,(.lst .rule fA)),(20,(.int .i64 gA)),(21,(.int .i64 eA)),(35,(.lst .cnd lA)),(36,(.int .i64 mA)),(37,(.int .i64 kA))],[(3,(.box 0 [(.lst .node aA),(.lst .link bA)]))]⟩
noncomputable def sh0 (l:List Rule) (n:Net) (k1:Y1):R :=
 condB (!(rulesB l)) (some ((.int .i64 (1:Int)),[])) (chk (okN n) (condB (!(netB n)) (some ((.int .i64 (1:Int)),[])) (k1 l n.nds n.lks)))
noncomputable def sh1 (l0:List Rule) (aA:List Node) (bA:List Lnk) (k3:Y3):R :=
 k3 l0 (Int.ofNat (List.length l0)) (0:Int) aA bA
noncomputable def sh2:R :=
 some ((.int .i64 (0:Int)),[])
noncomputable def sh3 (fA:List Rule) (gA:Int) (eA:Int) (aA:List Node) (bA:List Lnk) (k2:Y2) (k5:Y5):R :=
 condB (ilt eA gA) (chk (inb eA (List.length fA)) (chk (okN (⟨aA,bA⟩:Net)) (condB (((bif netB (⟨aA,bA⟩:Net) then (bif ilt (linkZ (⟨aA,bA⟩:Net) ((List.getD fA (Int.toNat eA) d_rule).rl)) 0 then 9 else 0) else 1)) != (0:Int)) (some ((.int .i64 (9:Int)),[])) (k5 fA gA eA ((List.getD fA (Int.toNat eA) d_rule).rw) (Int.ofNat (List.length ((List.getD fA (Int.toNat eA) d_rule).rw))) (0:Int) aA bA)))) (k2)
noncomputable def sh4 (fA:List Rule) (gA:Int) (eA:Int) (aA:List Node) (bA:List Lnk) (k3:Y3):R :=
 k3 fA gA (IntKind.wrap .i64 (eA+(1:Int))) aA bA
noncomputable def sh5 (fA:List Rule) (gA:Int) (eA:Int) (lA:List Cnd) (mA:Int) (kA:Int) (aA:List Node) (bA:List Lnk) (k4:Y4) (k5:Y5):R :=
 condB (ilt kA mA) (chk (inb kA (List.length lA)) (chk (nle (List.length aA) 90000) (condB (!(List.any aA (isNode ((List.getD lA (Int.toNat kA) d_cnd).cn)))) (some ((.int .i64 (9:Int)),[])) (k5 fA gA eA lA mA (IntKind.wrap .i64 (kA+(1:Int))) aA bA)))) (k4 fA gA eA aA bA)
noncomputable def it3 (Kb2:Kont U El) (n:Nat):Kont U El:=iter nm3 (fun st' K'=>exec X (cdp [1,1,0,1,0,0] bd) (.seq none .d (.seq none .d (.seq (some nm4) (.block (.seq none .d (.seq none .d (.seq none .d (.block (.loop nm5 .d)))))) .d))) st' K' (Eblk 0 (cutK nm2 Kb2) (fun _ _=>none)) RR) n
noncomputable def it5 (Kb2 Kb4:Kont U El) (n:Nat):Kont U El:=iter nm5 (fun st' K'=>exec X (cdp [1,1,0,1,0,0,1,1,0,0,1,1,1,0,0] bd) .d st' K' (Eblk 2 (cutK nm4 Kb4) (Eblk 1 (cutK nm4 Kb4) (Eblk 0 (cutK nm2 Kb2) (fun _ _=>none)))) RR) n
noncomputable def ct1:Kont U El:=fun st=>exec X (cdp [1,1] bd) (.seq (some nm2) (.seq none .d (.block (.loop nm3 (.seq none .d (.seq none .d (.seq (some nm4) (.block (.seq none .d (.seq none .d (.seq none .d (.block (.loop nm5 .d)))))) .d)))))) .d) st RR (fun _ _=>none) RR
noncomputable def ct2:Kont U El:=fun st=>exec X (cdp [1,1,1] bd) .d st RR (fun _ _=>none) RR
noncomputable def ct4 (Kb2 Kb3:Kont U El):Kont U El:=fun st=>exec X (cdp [1,1,0,1,0,0,1,1,1] bd) .d st (cutK nm3 Kb3) (Eblk 0 (cutK nm2 Kb2) (fun _ _=>none)) RR
theorem P0 (l n):exec X (cdp [] bd) (.seq none .d (.seq (some nm1) .d (.seq (some nm2) (.seq none .d (.block (.loop nm3 (.seq none .d (.seq none .d (.seq (some nm4) (.block (.seq none .d (.seq none .d (.seq none .d (.block (.loop nm5 .d)))))) .d)))))) .d))) (fr0 l n) RR (fun _ _=>none) RR=sh0 l n (fun y0 y1 y2=>(hid ct1) (fr1 y0 y1 y2)):=by kernel_rfl
theorem P1 (l0 aA bA):ct1 (fr1 l0 aA bA)=sh1 l0 aA bA (fun y0 y1 y2 y3 y4=>(hid (it3 (hid ct2) 100000)) (fr3 y0 y1 y2 y3 y4)):=by kernel_rfl
theorem P2:ct2 (fr2)=sh2:=by kernel_rfl
theorem P3 (fA gA eA aA bA) (Kb2 Kb3:Kont U El):exec X (cdp [1,1,0,1,0,0] bd) (.seq none .d (.seq none .d (.seq (some nm4) (.block (.seq none .d (.seq none .d (.seq none .d (.block (.loop nm5 .d)))))) .d))) (fr3 fA gA eA aA bA) (cutK nm3 Kb3) (Eblk 0 (cutK nm2 Kb2) (fun _ _=>none)) RR=sh3 fA gA eA aA bA (Kb2 (fr2)) (fun y0 y1 y2 y3 y4 y5 y6 y7=>(hid (it5 Kb2 (hid (ct4 Kb2 Kb3)) 100000)) (fr5 y0 y1 y2 y3 y4 y5 y6 y7)):=by kernel_rfl
theorem P4 (fA gA eA aA bA) (Kb2 Kb3:Kont U El):ct4 Kb2 Kb3 (fr4 fA gA eA aA bA)=sh4 fA gA eA aA bA (fun y0 y1 y2 y3 y4=>Kb3 (fr3 y0 y1 y2 y3 y4)):=by kernel_rfl
theorem P5 (fA gA eA lA mA kA aA bA) (Kb2 Kb4 Kb5:Kont U El):exec X (cdp [1,1,0,1,0,0,1,1,0,0,1,1,1,0,0] bd) .d (fr5 fA gA eA lA mA kA aA bA) (cutK nm5 Kb5) (Eblk 2 (cutK nm4 Kb4) (Eblk 1 (cutK nm4 Kb4) (Eblk 0 (cutK nm2 Kb2) (fun _ _=>none)))) RR=sh5 fA gA eA lA mA kA aA bA (fun y0 y1 y2 y3 y4=>Kb4 (fr4 y0 y1 y2 y3 y4)) (fun y0 y1 y2 y3 y4 y5 y6 y7=>Kb5 (fr5 y0 y1 y2 y3 y4 y5 y6 y7)):=by kernel_rfl
noncomputable def f2:R:=sh2
noncomputable def f4 (k3:Y3) (fA:List Rule) (gA:Int) (eA:Int) (aA:List Node) (bA:List Lnk):R:=sh4 fA gA eA aA bA k3
noncomputable def f5 (k3:Y3):Nat→Y5
 | 0=>fun _ _ _ _ _ _ _ _=>none
 | n+1=>fun fA gA eA lA mA kA aA bA=>sh5 fA gA eA lA mA kA aA bA (f4 k3) (f5 k3 n)
noncomputable def f3:Nat→Y3
 | 0=>fun _ _ _ _ _=>none
 | n+1=>fun fA gA eA aA bA=>sh3 fA gA eA aA bA f2 (f5 (f3 n) 100000)
noncomputable def f1 (l0:List Rule) (aA:List Node) (bA:List Lnk):R:=sh1 l0 aA bA (f3 100000)
noncomputable def f0 (l:List Rule) (n:Net):R:=sh0 l n f1
theorem T2:(hid ct2) (fr2)=f2:=by
 refine (congrFun (hid_eq _) _).trans <| (P2).trans ?_
 show _=sh2
 rfl
theorem T4 (KL3:Kont U El) (k3:Y3) (h3:∀ fA gA eA aA bA,KL3 (fr3 fA gA eA aA bA)=k3 fA gA eA aA bA) (fA gA eA aA bA):(hid (ct4 (hid ct2) KL3)) (fr4 fA gA eA aA bA)=f4 k3 fA gA eA aA bA:=by
 refine (congrFun (hid_eq _) _).trans <| (P4 fA gA eA aA bA (hid ct2) KL3).trans ?_
 show _=sh4 fA gA eA aA bA k3
 simp only [h3]
theorem T5 (KL3:Kont U El) (k3:Y3) (h3:∀ fA gA eA aA bA,KL3 (fr3 fA gA eA aA bA)=k3 fA gA eA aA bA):∀ (n:Nat),∀ fA gA eA lA mA kA aA bA,it5 (hid ct2) (hid (ct4 (hid ct2) KL3)) n (fr5 fA gA eA lA mA kA aA bA)=f5 k3 n fA gA eA lA mA kA aA bA:=by
  intro n
  induction n with
  | zero=>intros; rfl
  | succ n ih =>
    intro fA gA eA lA mA kA aA bA
    refine (P5 fA gA eA lA mA kA aA bA (hid ct2) (hid (ct4 (hid ct2) KL3)) (it5 (hid ct2) (hid (ct4 (hid ct2) KL3)) n)).trans ?_
    show _=sh5 fA gA eA lA mA kA aA bA (f4 k3) (f5 k3 n)
    simp only [T4 KL3 k3 h3,ih]
theorem H5 (KL3:Kont U El) (k3:Y3) (h3:∀ fA gA eA aA bA,KL3 (fr3 fA gA eA aA bA)=k3 fA gA eA aA bA) (fA gA eA lA mA kA aA bA):hid (it5 (hid ct2) (hid (ct4 (hid ct2) KL3)) 100000) (fr5 fA gA eA lA mA kA aA bA)=f5 k3 100000 fA gA eA lA mA kA aA bA:=(congrFun (hid_eq _) _).trans (T5 KL3 k3 h3 100000 fA gA eA lA mA kA aA bA)
theorem T3:∀ (n:Nat),∀ fA gA eA aA bA,it3 (hid ct2) n (fr3 fA gA eA aA bA)=f3 n fA gA eA aA bA:=by
  intro n
  induction n with
  | zero=>intros; rfl
  | succ n ih =>
    intro fA gA eA aA bA
    refine (P3 fA gA eA aA bA (hid ct2) (it3 (hid ct2) n)).trans ?_
    show _=sh3 fA gA eA aA bA f2 (f5 (f3 n) 100000)
    simp only [T2,H5 (it3 (hid ct2) n) (f3 n) ih]
theorem H3 (fA gA eA aA bA):hid (it3 (hid ct2) 100000) (fr3 fA gA eA aA bA)=f3 100000 fA gA eA aA bA:=(congrFun (hid_eq _) _).trans (T3 100000 fA gA eA aA bA)
theorem T1 (l0 aA bA):(hid ct1) (fr1 l0 aA bA)=f1 l0 aA bA:=by
 refine (congrFun (hid_eq _) _).trans <| (P1 l0 aA bA).trans ?_
 show _=sh1 l0 aA bA (f3 100000)
 simp only [H3]
theorem T0 (l n):exec X bd (.seq none .d (.seq (some nm1) .d (.seq (some nm2) (.seq none .d (.block (.loop nm3 (.seq none .d (.seq none .d (.seq (some nm4) (.block (.seq none .d (.seq none .d (.seq none .d (.block (.loop nm5 .d)))))) .d)))))) .d))) (fr0 l n) RR (fun _ _=>none) RR=f0 l n:=by
 refine (P0 l n).trans ?_
 show _=sh0 l n f1
 simp only [T1]
theorem run (l n):runFn X bd (.seq none .d (.seq (some nm1) .d (.seq (some nm2) (.seq none .d (.block (.loop nm3 (.seq none .d (.seq none .d (.seq (some nm4) (.block (.seq none .d (.seq none .d (.seq none .d (.block (.loop nm5 .d)))))) .d)))))) .d))) nmR [4] [] [(.lst .rule l),(.agg [(.lst .node n.nds),(.lst .link n.lks)])]=f0 l n:=T0 l n
theorem inner (nds:List Node) (lks:List Lnk) (hn:nle nds.length 90000=true) (l:List Rule) (i:Int) (w:List Cnd) (hw:w.length≤90000) (k4:List Rule→Int→Int→List Node→List Lnk→R) :
  f5 k4 100000 l (Int.ofNat l.length) i w (Int.ofNat w.length) 0 nds lks=condB (List.all w (fun c=>hasN ⟨nds,lks⟩ c.cn)) (k4 l (Int.ofNat l.length) (IntKind.wrap .i64 (i+1)) nds lks) (outI 9):=by
 refine (grun_eq w (by omega) (fun n_ (_:Unit) i_=>f5 k4 n_ l (Int.ofNat l.length) i w (Int.ofNat w.length) i_ nds lks) (fun u i x k=>condB (!(hasN ⟨nds,lks⟩ x.cn)) (outI 9) (k u)) (fun _=>k4 l (Int.ofNat l.length) (IntKind.wrap .i64 (i+1)) nds lks) (fun n_ u_ i_ hi_=>?_) (fun n_ u_=>?_) 100000 0 () (by omega) (by omega)).trans ((grun_badV (fun _ x=>!(hasN ⟨nds,lks⟩ x.cn)) _ (outI 9) w 0).trans ?_)
 ·show sh5 l (Int.ofNat l.length) i w (Int.ofNat w.length) (i_:Int) nds lks (f4 k4) (f5 k4 n_)=_
  unfold sh5
  rw [iltT (by simp; omega),inbT hi_,toNat_nat,getD_lt hi_,hn]
  rfl
 ·show sh5 l (Int.ofNat l.length) i w (Int.ofNat w.length) (w.length:Int) nds lks (f4 k4) (f5 k4 n_)=_
  unfold sh5
  rw [iltF (by simp)]
  rfl
 ·simp only [Bool.not_not,allI_all]
theorem f0_eq (l : List Rule) (n : Net) (h : okN n = true) : f0 l n = outI (givenZ l n) := by
  show sh0 l n f1=_
  unfold sh0 givenZ
  cases hr:rulesB l with
  | false=>rfl
  | true =>
    rw [h]
    cases hnet:netB n with
    | false=>rfl
    | true =>
      show f1 l n.nds n.lks=_
      have h1':okN (⟨n.nds,n.lks⟩:Net)=true:=h
      have hnet':netB (⟨n.nds,n.lks⟩:Net)=true:=hnet
      have hl:=(rulesB_len hr).1
      refine (grun_eq l (by omega) (fun n_ (_:Unit) i_=>f3 n_ l (Int.ofNat l.length) i_ n.nds n.lks) (fun u i x k=>condB (!(knownR n x)) (outI 9) (k u)) (fun _=>outI 0) (fun n_ u_ i_ hi_=>?_) (fun n_ u_=>?_) 100000 0 () (by omega) (by omega)).trans ((grun_badV (fun _ x=>!(knownR n x)) _ (outI 9) l 0).trans ?_)
      · show sh3 l (Int.ofNat l.length) (i_ : Int) n.nds n.lks f2 (f5 (f3 n_) 100000) = _
        unfold sh3
        have e:=inner n.nds n.lks (okN_nds h) l (i_:Int) l[i_].rw (by have:=(ruleB_len ((rulesB_len hr).2 _ (List.getElem_mem hi_))).1; omega) (f3 n_)
        rw [iltT (by simp; omega),inbT hi_,toNat_nat,getD_lt hi_,h1',hnet',e]
        show condB ((bif ilt (linkZ n l[i_].rl) 0 then (9:Int) else 0) != 0) (outI 9) (condB (List.all l[i_].rw (fun c=>hasN n c.cn)) (f3 n_ l (Int.ofNat l.length) (IntKind.wrap .i64 ((i_:Int)+1)) n.nds n.lks) (outI 9))=_
        unfold knownR
        cases ilt (linkZ n l[i_].rl) 0<;>cases List.all l[i_].rw (fun c=>hasN n c.cn)<;>rfl
      · show sh3 l (Int.ofNat l.length) (l.length : Int) n.nds n.lks f2 (f5 (f3 n_) 100000) = _
        unfold sh3
        rw [iltF (by simp)]
        rfl
      · simp only [Bool.not_not, allI_all]
        unfold knownB
        cases List.all l (knownR n)<;>rfl
theorem ok:CtxOk Tryz.prog X:=ctxOk tab (spC gv1C.spOk (spC nLink.spOk (spC valid.spOk (spC nvalid.spOk spN)))) dpN
theorem okM:MOk Tryz.prog X:=fun g sp h=>by cases h
theorem spec (l:List Rule) (n:Net) (h:(okN n)=true):CallSpec Tryz.prog E 62 [(.lst .rule l),(.agg [(.lst .node n.nds),(.lst .link n.lks)])] (.int .i64 (givenZ l n)) [] :=
 rfs ok okM Tryz.call62 Tryz.func62 ((run l n).trans (f0_eq l n h))
noncomputable def sp:Sp U El:=fun args k=>match args with
 | [.lst .rule l,.agg [.lst .node n_nds,.lst .link n_lks]]=>chk (okN (⟨n_nds,n_lks⟩:Net)) (k (.int .i64 (givenZ l (⟨n_nds,n_lks⟩:Net))) [])
 | _=>none
theorem spOk:SpOk Tryz.prog E 62 sp:=⟨fun vs=>by unfold sp;split;exact det_c _ _ _;exact ⟨none,fun _=>rfl⟩,fun vs k r h=>by unfold sp at h;split at h;(obtain ⟨h1,h2⟩:=chk_some h;exact ⟨_,_,spec _ ⟨_,_⟩ h1,h2⟩);cases h⟩
end given
end Go.Proofs.YthdimnlkcgchoaaGreat
