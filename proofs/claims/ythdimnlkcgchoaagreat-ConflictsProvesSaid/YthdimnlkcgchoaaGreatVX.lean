/- Settings of the code. -/
import Derived.Test.YthdimnlkcgchoaaGreatVW
namespace Go.Proofs.YthdimnlkcgchoaaGreat
set_option linter.unusedSectionVars false
set_option linter.unusedSimpArgs false
set_option linter.unusedVariables false
set_option maxRecDepth 100000
noncomputable def notSet (x:Int):Bool := !(ile 0 x&&ile x 1000)
noncomputable def setOk (l:List Rule) (n:Net) (v bf:List Int):Bool :=
  rulesB l&&(netB n&&(knownB l n&&(Nat.beq v.length n.nds.length&&(Nat.beq bf.length n.lks.length && !(List.any bf notSet)))))
noncomputable def runS (n:Net) (am:List ((List UInt8)×Int)):List Rule→List Int→List (Int×Bool)→Option (List Int)
  | [],out,_=>some out
  | r :: l, out, st => bif !(List.any r.rw (failsM am)) then (bif mgetD kq_int st (linkZ n r.rl) d_bool && (List.getD out (Int.toNat (linkZ n r.rl)) d_int != r.rs) then none
      else runS n am l (List.set out (Int.toNat (linkZ n r.rl)) r.rs) (mput kq_int st (linkZ n r.rl) true)) else runS n am l out st
noncomputable def setsO (l:List Rule) (n:Net) (v bf:List Int):Option (List Int):=runS n (List.zip (namesL n) v) l bf []
noncomputable def setsL (l:List Rule) (n:Net) (v bf:List Int):List Int:=(setsO l n v bf).getD []
noncomputable def setsE (l:List Rule) (n:Net) (v bf:List Int):Int:=bif (setsO l n v bf).isSome then 0 else 26
noncomputable def outST (o:Option (List Int)):R:=some (.tup [.ful 0,.int .i64 (bif o.isSome then 0 else 26)],[(0,.rows .int (o.getD []))])
noncomputable def lnkM:Nat→List Lnk→List ((List UInt8)×Int)
  | _,[]=>[]
  | i,x :: l=>(x.ln,(i:Int)) :: lnkM (i+1) l
theorem lnkM_snoc (x:Lnk):∀ (a:List Lnk) (i:Nat),lnkM i (a++[x])=lnkM i a++[(x.ln,((i+a.length:Nat):Int))]:=by
  intro a
  induction a with
  | nil=>intro i; rfl
  | cons y a ih =>
    intro i
    simp only [List.cons_append,lnkM,ih,List.length_cons]
    rw [show i+1+a.length=i+(a.length+1) by omega]
theorem mfind_lnk (k:List UInt8):∀ (a:List Lnk) (i:Nat),mfind kq_str (lnkM i a) k=bif List.any a (isLink k) then some (findZ (isLink k) i a) else none:=by
  intro a
  induction a with
  | nil=>intro i; rfl
  | cons x a ih =>
    intro i
    have e:kq_str k x.ln=isLink k x:=by
      rw [kq_eq]
      unfold isLink
      rw [Bool.eq_iff_iff,beq_iff_eq,beq_iff_eq]
      exact ⟨Eq.symm,Eq.symm⟩
    simp only [lnkM,mfind,List.any_cons,findZ,e,ih]
    cases isLink k x<;>rfl
theorem net_link {n:Net} (h:netB n=true) (i:Nat) (hi:i < n.lks.length):linkZ n n.lks[i].ln=(i:Int):=by
  simp only [netB,Bool.and_eq_true] at h
  have:=allI_iff.1 h.2.2.2 i _ (List.getElem?_eq_getElem hi)
  simp only [linkBad,Bool.not_eq_true',Bool.or_eq_false_iff,Nat.zero_add] at this
  simpa using this.2.1
theorem link_new {n:Net} (h:netB n=true) (i:Nat) (hi:i < n.lks.length):List.any (n.lks.take i) (isLink n.lks[i].ln)=false:=by
  cases he:List.any (n.lks.take i) (isLink n.lks[i].ln) with
  | false=>rfl
  | true =>
    obtain ⟨x,hx,hs⟩:=List.any_eq_true.1 he
    obtain ⟨k,hk,ek⟩:=List.getElem_of_mem hx
    simp only [List.length_take] at hk
    rw [List.getElem_take] at ek
    have h1:=findZ_le (isLink n.lks[i].ln) n.lks 0 k (by omega) (by rw [ek]; exact hs)
    have h2:=net_link h i hi
    unfold linkZ at h2
    omega
theorem link_in {n:Net} {s:List UInt8} (h:ilt (linkZ n s) 0=false):0≤linkZ n s∧linkZ n s < (n.lks.length:Int)∧List.any n.lks (isLink s)=true:=by
  have h1:=iltN h
  have h2:ile 0 (linkZ n s)=true:=ileT (by omega)
  have h3:List.any n.lks (isLink s)=true:=by unfold linkZ at h2; rwa [findZ_any] at h2
  unfold linkZ at *
  rcases findZ_range (isLink s) n.lks 0 with h4 | ⟨h4,h5⟩
  · omega
  · exact ⟨by omega,by omega,h3⟩
theorem known_link {l:List Rule} {n:Net} (hk:knownB l n=true):∀ r∈l,ilt (linkZ n r.rl) 0=false:=fun r hr=>by
  have:=List.all_eq_true.1 hk r hr
  simp only [knownR,Bool.and_eq_true,Bool.not_eq_true'] at this
  exact this.1
namespace cloneI
noncomputable def bd:Code:=(Tryz.f105.body).getD .skip
noncomputable def X:Ctx U El:=⟨E,tds,zeros,eqs,specOf [],100000,8,dspecOf [],fun _=>none⟩
noncomputable def nmR:Norm U:=⟨[(2,.int)],[2],[2],[],[],[],[]⟩
noncomputable def RR:Kont U El:=fun st=>normK nmR st (retFin [2] [2])
noncomputable def fr0 (l:List Int):St U El:=⟨[(0,(.lst .int l))],[]⟩
noncomputable def sh0 (l:List Int):R :=
  condB (nlt 0 (List.length l)) (chk (nle ((List.length ([]:List Int)+List.length l) * 8) 140737488355328&&nle (List.length ([]:List Int)+List.length l) 9223372036854775807) (some ((.ful 0),[(0,.rows .int (([]:List Int)++l))]))) (amb (some ((.ful 0),[(0,.rows .int ([]:List Int))])) (chk (nle ((List.length ([]:List Int)+List.length l) * 8) 140737488355328&&nle (List.length ([]:List Int)+List.length l) 9223372036854775807) (some ((.ful 0),[(0,.rows .int (([]:List Int)++l))]))))
theorem P0 (l):exec X (cdp [] bd) .d (fr0 l) RR (fun _ _=>none) RR=sh0 l:=by kernel_rfl
noncomputable def f0 (l:List Int):R:=sh0 l
theorem T0 (l):exec X bd .d (fr0 l) RR (fun _ _=>none) RR=f0 l:=by
  refine (P0 l).trans ?_
  show _=sh0 l
  rfl
theorem run (l):runFn X bd .d nmR [2] [2] [(.lst .int l)]=f0 l:=T0 l
theorem f0_eq (l:List Int) (h:(nle (List.length l) 90000)=true):f0 l=outV1 l:=by
  have hl:=nleI h
  show sh0 l=_
  unfold sh0
  have e1:nle ((List.length ([]:List Int)+List.length l) * 8) 140737488355328=true:=nleT (by simp; omega)
  have e2:nle (List.length ([]:List Int)+List.length l) 9223372036854775807=true:=nleT (by simp; omega)
  rw [e1,e2]
  cases l with
  | nil=>exact amb_same _
  | cons x l=>rfl
theorem ok:CtxOk Tryz.prog X:=ctxOk tab spN dpN
theorem okM:MOk Tryz.prog X:=fun g sp h=>by cases h
theorem spec (l:List Int) (h:(nle (List.length l) 90000)=true):CallSpec Tryz.prog E 105 [(.lst .int l)] (.ful 0) [(0,.rows .int (l))] :=
  runFn_sound ok okM Tryz.call105 Tryz.func105 (by kernel_rfl) (by kernel_rfl) (by kernel_rfl) (by show 1≤8; decide) (by decide) (by rfl) ((run l).trans (f0_eq l h))
noncomputable def sp:Sp U El:=fun args k=>match args with
  | [.lst .int l]=>chk (nle (List.length l) 90000) (k (.ful 0) [(0,.rows .int (l))])
  | _=>none
theorem spOk:SpOk Tryz.prog E 105 sp where
  det:=fun vs=>by
    unfold sp
    split
    · exact det_c _ _ _
    · exact ⟨none,fun _=>rfl⟩
  ok:=fun vs k r h=>by
    unfold sp at h
    split at h
    · obtain ⟨h1, h2⟩ := chk_some h
      exact ⟨_,_,spec _ h1,h2⟩
    · cases h
end cloneI
namespace se1
noncomputable def bd:Code:=(Tryz.f103.body).getD .skip
noncomputable def X:Ctx U El:=⟨E,tds,zeros,eqs,specOf [(104,rwithin.sp)],100000,6,dspecOf [],fun _=>none⟩
noncomputable def nmR:Norm U:=⟨[],[2],[],[],[],[],[]⟩
noncomputable def RR:Kont U El:=fun st=>normK nmR st (retFin [2] [])
noncomputable def fr0 (x:Int):St U El:=⟨[(0,(.int .i64 x))],[]⟩
noncomputable def sh0 (x:Int):R :=
  some ((.bool (!((ile (0:Int) x&&ile x (1000:Int))))),[])
theorem P0 (x):exec X (cdp [] bd) .d (fr0 x) RR (fun _ _=>none) RR=sh0 x:=by kernel_rfl
noncomputable def f0 (x:Int):R:=sh0 x
theorem T0 (x):exec X bd .d (fr0 x) RR (fun _ _=>none) RR=f0 x:=by
  refine (P0 x).trans ?_
  show _=sh0 x
  rfl
theorem run (x):runFn X bd .d nmR [2] [] [(.int .i64 x)]=f0 x:=T0 x
theorem f0_eq (x:Int):f0 x=outB (notSet x):=rfl
theorem ok:CtxOk Tryz.prog X:=ctxOk tab (spC rwithin.spOk spN) dpN
theorem okM:MOk Tryz.prog X:=fun g sp h=>by cases h
theorem spec (x:Int):CallSpec Tryz.prog E 103 [(.int .i64 x)] (.bool (notSet x)) [] :=
  runFn_sound ok okM Tryz.call103 Tryz.func103 (by kernel_rfl) (by kernel_rfl) (by kernel_rfl) (by show 1≤6; decide) (by decide) (by rfl) ((run x).trans (f0_eq x))
noncomputable def sp:Sp U El:=fun args k=>match args with
  | [.int .i64 x]=>k (.bool (notSet x)) []
  | _=>none
theorem spOk:SpOk Tryz.prog E 103 sp where
  det:=fun vs=>by
    unfold sp
    split
    · exact ⟨some (_,_),fun _=>rfl⟩
    · exact ⟨none,fun _=>rfl⟩
  ok:=fun vs k r h=>by
    unfold sp at h
    split at h
    · exact ⟨_,_,spec _,h⟩
    · cases h
end se1
namespace se1X
noncomputable def bd:Code:=(Tryz.f80.body).getD .skip
noncomputable def X:Ctx U El:=⟨E,tds,zeros,eqs,specOf [(103,se1.sp)],100000,19,dspecOf [],fun _=>none⟩
noncomputable def nmR:Norm U:=⟨[],[4],[],[],[],[],[]⟩
noncomputable def RR:Kont U El:=fun st=>normK nmR st (retFin [4] [])
noncomputable def nm1:Norm U:=⟨[],[],[],[],[],[],[]⟩
noncomputable def nm2:Norm U:=⟨[],[0,1,7,8],[],[],[],[],[]⟩
abbrev Y1:=R
abbrev Y2:=(List Int)→Int→Int→R
noncomputable def fr0 (l:List Int):St U El:=⟨[(0,(.lst .int l)),(1,(.fn 103 [] []))],[]⟩
noncomputable def fr1:St U El:=⟨[],[]⟩
noncomputable def fr2 (s0:List Int) (x7:Int) (x8:Int):St U El:=⟨[(0,(.lst .int s0)),(1,(.fn 103 [] [])),(7,(.int .i64 x7)),(8,(.int .i64 x8))],[]⟩
noncomputable def sh0 (l:List Int) (k2:Y2):R :=
  k2 l (Int.ofNat (List.length l)) (0:Int)
noncomputable def sh1:R :=
  some ((.int .i64 (-1:Int)),[])
noncomputable def sh2 (s0:List Int) (x7:Int) (x8:Int) (k1:Y1) (k2:Y2):R :=
  condB (ilt x8 x7) (chk (inb x8 (List.length s0)) (condB (notSet (List.getD s0 (Int.toNat x8) d_int)) (some ((.int .i64 x8),[])) (k2 s0 x7 (IntKind.wrap .i64 (x8+(1:Int)))))) (k1)
noncomputable def it2 (Kb1:Kont U El) (n:Nat):Kont U El:=iter nm2 (fun st' K'=>exec X (cdp [1,0,1,0,0] bd) .d st' K' (Eblk 0 (cutK nm1 Kb1) (fun _ _=>none)) RR) n
noncomputable def ct1:Kont U El:=fun st=>exec X (cdp [1,1] bd) .d st RR (fun _ _=>none) RR
theorem P0 (l):exec X (cdp [] bd) (.seq none .d (.seq (some nm1) (.seq none .d (.block (.loop nm2 .d))) .d)) (fr0 l) RR (fun _ _=>none) RR=sh0 l (fun y0 y1 y2=>(hid (it2 (hid ct1) 100000)) (fr2 y0 y1 y2)):=by kernel_rfl
theorem P1:exec X (cdp [1,1] bd) .d (fr1) RR (fun _ _=>none) RR=sh1:=by kernel_rfl
theorem P2 (s0 x7 x8) (Kb1:Kont U El) (Kb2:Kont U El):exec X (cdp [1,0,1,0,0] bd) .d (fr2 s0 x7 x8) (cutK nm2 Kb2) (Eblk 0 (cutK nm1 Kb1) (fun _ _=>none)) RR=sh2 s0 x7 x8 (Kb1 (fr1)) (fun y0 y1 y2=>Kb2 (fr2 y0 y1 y2)):=by kernel_rfl
noncomputable def f1:R:=sh1
noncomputable def f2:Nat→Y2
  | 0=>fun _ _ _=>none
  | n+1=>fun s0 x7 x8=>sh2 s0 x7 x8 f1 (f2 n)
noncomputable def f0 (l:List Int):R:=sh0 l (f2 100000)
theorem T1:(hid ct1) (fr1)=f1:=by
  refine (congrFun (hid_eq _) _).trans <| (P1).trans ?_
  show _=sh1
  rfl
theorem T2:∀ (n:Nat),∀ s0 x7 x8,it2 (hid ct1) n (fr2 s0 x7 x8)=f2 n s0 x7 x8:=by
  intro n
  induction n with
  | zero=>intros; rfl
  | succ n ih =>
    intro s0 x7 x8
    refine (P2 s0 x7 x8 (hid ct1) (it2 (hid ct1) n)).trans ?_
    show _=sh2 s0 x7 x8 f1 (f2 n)
    simp only [T1,ih]
theorem H2 (s0 x7 x8):hid (it2 (hid ct1) 100000) (fr2 s0 x7 x8)=f2 100000 s0 x7 x8:=(congrFun (hid_eq _) _).trans (T2 100000 s0 x7 x8)
theorem T0 (l):exec X bd (.seq none .d (.seq (some nm1) (.seq none .d (.block (.loop nm2 .d))) .d)) (fr0 l) RR (fun _ _=>none) RR=f0 l:=by
  refine (P0 l).trans ?_
  show _=sh0 l (f2 100000)
  simp only [H2]
theorem run (l):runFn X bd (.seq none .d (.seq (some nm1) (.seq none .d (.block (.loop nm2 .d))) .d)) nmR [4] [] [(.lst .int l),(.fn 103 [] [])]=f0 l:=T0 l
theorem f0_eq (l:List Int) (h:(nle (List.length l) 90000)=true):f0 l=outI (findZ notSet 0 l):=by
  have hl:=nleI h
  refine (grun_eq l (by omega) (fun n_ (_:Unit) i_=>f2 n_ l (Int.ofNat l.length) i_) _ (fun _=>outI (-1)) (fun n_ u_ i_ hi_ => ?_) (fun n_ u_ => ?_) 100000 0 () (by omega) (by omega)).trans (grun_find notSet outI l 0)
  · show sh2 l (Int.ofNat l.length) i_ f1 (f2 n_) = _
    unfold sh2
    rw [iltT (by simp; omega),inbT hi_,toNat_nat,getD_lt hi_]
    rfl
  · show sh2 l (Int.ofNat l.length) (l.length : Int) f1 (f2 n_) = _
    unfold sh2
    rw [iltF (by simp)]
    rfl
theorem ok:CtxOk Tryz.prog X:=ctxOk tab (spC se1.spOk spN) dpN
theorem okM:MOk Tryz.prog X:=fun g sp h=>by cases h
theorem spec (l:List Int) (h:(nle (List.length l) 90000)=true):CallSpec Tryz.prog E 80 [(.lst .int l),(.fn 103 [] [])] (.int .i64 (findZ notSet 0 l)) [] :=
  runFn_sound ok okM Tryz.call80 Tryz.func80 (by kernel_rfl) (by kernel_rfl) (by kernel_rfl) (by show 2≤19; decide) (by decide) (by rfl) ((run l).trans (f0_eq l h))
noncomputable def sp:Sp U El:=fun args k=>match args with
  | [.lst .int l,.fn 103 [] []]=>chk (nle (List.length l) 90000) (k (.int .i64 (findZ notSet 0 l)) [])
  | _=>none
theorem spOk:SpOk Tryz.prog E 80 sp where
  det:=fun vs=>by
    unfold sp
    split
    · exact det_c _ _ _
    · exact ⟨none,fun _=>rfl⟩
  ok:=fun vs k r h=>by
    unfold sp at h
    split at h
    · obtain ⟨h1, h2⟩ := chk_some h
      exact ⟨_,_,spec _ h1,h2⟩
    · cases h
end se1X
namespace se1C
noncomputable def bd:Code:=(Tryz.f35.body).getD .skip
noncomputable def X:Ctx U El:=⟨E,tds,zeros,eqs,specOf [(80,se1X.sp)],100000,9,dspecOf [],fun _=>none⟩
noncomputable def nmR:Norm U:=⟨[],[4],[],[],[],[],[]⟩
noncomputable def RR:Kont U El:=fun st=>normK nmR st (retFin [4] [])
noncomputable def fr0 (l:List Int):St U El:=⟨[(0,(.lst .int l)),(1,(.fn 103 [] []))],[]⟩
noncomputable def sh0 (l:List Int):R :=
  chk (nle (List.length l) 90000) (some ((.bool (ile (0:Int) (findZ notSet 0 l))),[]))
theorem P0 (l):exec X (cdp [] bd) .d (fr0 l) RR (fun _ _=>none) RR=sh0 l:=by kernel_rfl
noncomputable def f0 (l:List Int):R:=sh0 l
theorem T0 (l):exec X bd .d (fr0 l) RR (fun _ _=>none) RR=f0 l:=by
  refine (P0 l).trans ?_
  show _=sh0 l
  rfl
theorem run (l):runFn X bd .d nmR [4] [] [(.lst .int l),(.fn 103 [] [])]=f0 l:=T0 l
theorem f0_eq (l:List Int) (h:(nle (List.length l) 90000)=true):f0 l=outB (List.any l notSet):=by
  show chk _ (outB _)=_
  rw [h,chkT,findZ_any]
theorem ok:CtxOk Tryz.prog X:=ctxOk tab (spC se1X.spOk spN) dpN
theorem okM:MOk Tryz.prog X:=fun g sp h=>by cases h
theorem spec (l:List Int) (h:(nle (List.length l) 90000)=true):CallSpec Tryz.prog E 35 [(.lst .int l),(.fn 103 [] [])] (.bool (List.any l notSet)) [] :=
  runFn_sound ok okM Tryz.call35 Tryz.func35 (by kernel_rfl) (by kernel_rfl) (by kernel_rfl) (by show 2≤9; decide) (by decide) (by rfl) ((run l).trans (f0_eq l h))
noncomputable def sp:Sp U El:=fun args k=>match args with
  | [.lst .int l,.fn 103 [] []]=>chk (nle (List.length l) 90000) (k (.bool (List.any l notSet)) [])
  | _=>none
theorem spOk:SpOk Tryz.prog E 35 sp where
  det:=fun vs=>by
    unfold sp
    split
    · exact det_c _ _ _
    · exact ⟨none,fun _=>rfl⟩
  ok:=fun vs k r h=>by
    unfold sp at h
    split at h
    · obtain ⟨h1, h2⟩ := chk_some h
      exact ⟨_,_,spec _ h1,h2⟩
    · cases h
end se1C
namespace usettings
noncomputable def bd:Code:=(Tryz.f52.body).getD .skip
noncomputable def X:Ctx U El:=⟨E,tds,zeros,eqs,specOf [(35,se1C.sp),(85,valid.sp),(87,uholds.sp),(102,nvalid.sp),(105,cloneI.sp)],100000,160,dspecOf [],fun _=>none⟩
noncomputable def nmR:Norm U:=⟨[(8,.int)],[8,9],[8],[],[],[],[]⟩
noncomputable def RR:Kont U El:=fun st=>normK nmR st (retFin [8,9] [8])
noncomputable def nm1:Norm U:=⟨[],[0,2,3,5],[5],[],[],[],[(5,0,.node),(5,1,.link)]⟩
noncomputable def nm2:Norm U:=⟨[],[0,3,5,10],[5,56],[],[],[],[(5,0,.node),(5,1,.link)]⟩
noncomputable def nm3:Norm U:=⟨[],[0,2,3,5,10,58,59,60],[5,56],[],[],[],[(5,0,.node),(5,1,.link)]⟩
noncomputable def nm4:Norm U:=⟨[],[0,3,10,13],[56,73],[],[],[],[]⟩
noncomputable def nm5:Norm U:=⟨[],[0,3,10,13,75,76,77],[56,73],[],[],[],[]⟩
noncomputable def nm6:Norm U:=⟨[],[0,3,10,13],[56,73],[],[],[],[]⟩
noncomputable def nm7:Norm U:=⟨[],[0,3,10,13,87,88,89],[56,73],[],[],[],[]⟩
noncomputable def nm8:Norm U:=⟨[],[0,3,10,13,87,88,89],[56,73],[],[],[],[]⟩
noncomputable def nm9:Norm U:=⟨[],[0,3,10,13,19,87,88,89],[56,73],[],[],[],[]⟩
noncomputable def nm10:Norm U:=⟨[],[0,3,10,13,19,87,88,89,101,102,103],[56,73],[],[],[],[]⟩
noncomputable def nm11:Norm U:=⟨[],[0,3,10,13,19,87,88,89,101,102,103],[56,73],[],[],[],[]⟩
noncomputable def nm12:Norm U:=⟨[(24,.int)],[24],[24],[],[],[],[]⟩
noncomputable def nm13:Norm U:=⟨[(24,.int)],[10,13,24,25,125,126,127],[24,56,73,124],[],[],[],[]⟩
noncomputable def nm14:Norm U:=⟨[(24,.int)],[10,13,24,25,125,126,127],[24,56,73,124],[],[],[],[]⟩
noncomputable def nm15:Norm U:=⟨[(24,.int)],[10,13,24,25,27,28,125,126,127],[24,27,56,73,124],[],[],[],[(27,1,.cnd)]⟩
abbrev Y1:=(List Rule)→(List Int)→(List Int)→(List Node)→(List Lnk)→R
abbrev Y2:=(List Rule)→(List Int)→(List Node)→(List Lnk)→(List ((List UInt8)×Int))→R
abbrev Y3:=(List Rule)→(List Int)→(List Int)→(List Node)→Int→Int→(List Node)→(List Lnk)→(List ((List UInt8)×Int))→R
abbrev Y4:=(List Rule)→(List Int)→(List ((List UInt8)×Int))→(List ((List UInt8)×Int))→R
abbrev Y5:=(List Rule)→(List Int)→(List Lnk)→Int→Int→(List ((List UInt8)×Int))→(List ((List UInt8)×Int))→R
abbrev Y6:=(List Rule)→(List Int)→(List ((List UInt8)×Int))→(List ((List UInt8)×Int))→R
abbrev Y7:=(List Rule)→(List Int)→(List Rule)→Int→Int→(List ((List UInt8)×Int))→(List ((List UInt8)×Int))→R
abbrev Y8:=(List Rule)→(List Int)→(List Rule)→Int→Int→(List ((List UInt8)×Int))→(List ((List UInt8)×Int))→R
abbrev Y9:=(List Rule)→(List Int)→Bool→(List Rule)→Int→Int→(List ((List UInt8)×Int))→(List ((List UInt8)×Int))→R
abbrev Y10:=(List Rule)→(List Int)→Bool→(List Rule)→Int→Int→(List Cnd)→Int→Int→(List ((List UInt8)×Int))→(List ((List UInt8)×Int))→R
abbrev Y11:=(List Rule)→(List Int)→Bool→(List Rule)→Int→Int→(List Cnd)→Int→Int→(List ((List UInt8)×Int))→(List ((List UInt8)×Int))→R
abbrev Y12:=(List Int)→R
abbrev Y13:=(List Int)→(List Rule)→Int→Int→(List ((List UInt8)×Int))→(List ((List UInt8)×Int))→(List (Int×Bool))→R
abbrev Y14:=(List Int)→(List Rule)→Int→Int→(List ((List UInt8)×Int))→(List ((List UInt8)×Int))→(List (Int×Bool))→R
abbrev Y15:=(List Int)→Int→(List Rule)→Int→Int→(List UInt8)→(List Cnd)→(List UInt8)→Int→(List ((List UInt8)×Int))→(List ((List UInt8)×Int))→(List (Int×Bool))→R
noncomputable def fr0 (l:List Rule) (n:Net) (v:List Int) (bf:List Int):St U El:=⟨[(0,(.lst .rule l)),(1,(.agg [(.lst .node n.nds),(.lst .link n.lks)])),(2,(.lst .int v)),(3,(.lst .int bf))],[]⟩
noncomputable def fr1 (l0:List Rule) (eA:List Int) (aA:List Int) (nA:List Node) (oA:List Lnk):St U El:=⟨[(0,(.lst .rule l0)),(2,(.lst .int eA)),(3,(.lst .int aA)),(5,(.ptr 5 0))],[(5,(.box 0 [(.lst .node nA),(.lst .link oA)]))]⟩
noncomputable def fr2 (l0:List Rule) (aA:List Int) (nA:List Node) (oA:List Lnk) (bA:List ((List UInt8)×Int)):St U El:=⟨[(0,(.lst .rule l0)),(3,(.lst .int aA)),(5,(.ptr 5 0)),(10,(.mp 56))],[(5,(.box 0 [(.lst .node nA),(.lst .link oA)])),(56,(.map .str .int bA))]⟩
noncomputable def fr3 (l0:List Rule) (eA:List Int) (aA:List Int) (yA:List Node) (aB:Int) (wA:Int) (nA:List Node) (oA:List Lnk) (bA:List ((List UInt8)×Int)):St U El:=⟨[(0,(.lst .rule l0)),(2,(.lst .int eA)),(3,(.lst .int aA)),(5,(.ptr 5 0)),(10,(.mp 56)),(58,(.lst .node yA)),(59,(.int .i64 aB)),(60,(.int .i64 wA))],[(5,(.box 0 [(.lst .node nA),(.lst .link oA)])),(56,(.map .str .int bA))]⟩
noncomputable def fr4 (l0:List Rule) (aA:List Int) (bA:List ((List UInt8)×Int)) (dA:List ((List UInt8)×Int)):St U El:=⟨[(0,(.lst .rule l0)),(3,(.lst .int aA)),(10,(.mp 56)),(13,(.mp 73))],[(56,(.map .str .int bA)),(73,(.map .str .int dA))]⟩
noncomputable def fr5 (l0:List Rule) (aA:List Int) (zA:List Lnk) (bB:Int) (xA:Int) (bA:List ((List UInt8)×Int)) (dA:List ((List UInt8)×Int)):St U El:=⟨[(0,(.lst .rule l0)),(3,(.lst .int aA)),(10,(.mp 56)),(13,(.mp 73)),(75,(.lst .link zA)),(76,(.int .i64 bB)),(77,(.int .i64 xA))],[(56,(.map .str .int bA)),(73,(.map .str .int dA))]⟩
noncomputable def fr6 (l0:List Rule) (aA:List Int) (bA:List ((List UInt8)×Int)) (dA:List ((List UInt8)×Int)):St U El:=⟨[(0,(.lst .rule l0)),(3,(.lst .int aA)),(10,(.mp 56)),(13,(.mp 73))],[(56,(.map .str .int bA)),(73,(.map .str .int dA))]⟩
noncomputable def fr7 (l0:List Rule) (aA:List Int) (kA:List Rule) (mA:Int) (jA:Int) (bA:List ((List UInt8)×Int)) (dA:List ((List UInt8)×Int)):St U El:=⟨[(0,(.lst .rule l0)),(3,(.lst .int aA)),(10,(.mp 56)),(13,(.mp 73)),(87,(.lst .rule kA)),(88,(.int .i64 mA)),(89,(.int .i64 jA))],[(56,(.map .str .int bA)),(73,(.map .str .int dA))]⟩
noncomputable def fr8 (l0:List Rule) (aA:List Int) (kA:List Rule) (mA:Int) (jA:Int) (bA:List ((List UInt8)×Int)) (dA:List ((List UInt8)×Int)):St U El:=⟨[(0,(.lst .rule l0)),(3,(.lst .int aA)),(10,(.mp 56)),(13,(.mp 73)),(87,(.lst .rule kA)),(88,(.int .i64 mA)),(89,(.int .i64 jA))],[(56,(.map .str .int bA)),(73,(.map .str .int dA))]⟩
noncomputable def fr9 (l0:List Rule) (aA:List Int) (lA:Bool) (kA:List Rule) (mA:Int) (jA:Int) (bA:List ((List UInt8)×Int)) (dA:List ((List UInt8)×Int)):St U El:=⟨[(0,(.lst .rule l0)),(3,(.lst .int aA)),(10,(.mp 56)),(13,(.mp 73)),(19,(.bool lA)),(87,(.lst .rule kA)),(88,(.int .i64 mA)),(89,(.int .i64 jA))],[(56,(.map .str .int bA)),(73,(.map .str .int dA))]⟩
noncomputable def fr10 (l0:List Rule) (aA:List Int) (lA:Bool) (kA:List Rule) (mA:Int) (jA:Int) (qA:List Cnd) (rA:Int) (pA:Int) (bA:List ((List UInt8)×Int)) (dA:List ((List UInt8)×Int)):St U El:=⟨[(0,(.lst .rule l0)),(3,(.lst .int aA)),(10,(.mp 56)),(13,(.mp 73)),(19,(.bool lA)),(87,(.lst .rule kA)),(88,(.int .i64 mA)),(89,(.int .i64 jA)),(101,(.lst .cnd qA)),(102,(.int .i64 rA)),(103,(.int .i64 pA))],[(56,(.map .str .int bA)),(73,(.map .str .int dA))]⟩
noncomputable def fr11 (l0:List Rule) (aA:List Int) (lA:Bool) (kA:List Rule) (mA:Int) (jA:Int) (qA:List Cnd) (rA:Int) (pA:Int) (bA:List ((List UInt8)×Int)) (dA:List ((List UInt8)×Int)):St U El:=⟨[(0,(.lst .rule l0)),(3,(.lst .int aA)),(10,(.mp 56)),(13,(.mp 73)),(19,(.bool lA)),(87,(.lst .rule kA)),(88,(.int .i64 mA)),(89,(.int .i64 jA)),(101,(.lst .cnd qA)),(102,(.int .i64 rA)),(103,(.int .i64 pA))],[(56,(.map .str .int bA)),(73,(.map .str .int dA))]⟩
noncomputable def fr12 (cA:List Int):St U El:=⟨[(24,(.ful 24))],[(24,(.rows .int cA))]⟩
noncomputable def fr13 (cA:List Int) (gA:List Rule) (iA:Int) (fA:Int) (bA:List ((List UInt8)×Int)) (dA:List ((List UInt8)×Int)) (hA:List (Int×Bool)):St U El:=⟨[(10,(.mp 56)),(13,(.mp 73)),(24,(.ful 24)),(25,(.mp 124)),(125,(.lst .rule gA)),(126,(.int .i64 iA)),(127,(.int .i64 fA))],[(24,(.rows .int cA)),(56,(.map .str .int bA)),(73,(.map .str .int dA)),(124,(.map .int .bool hA))]⟩
noncomputable def fr14 (cA:List Int) (gA:List Rule) (iA:Int) (fA:Int) (bA:List ((List UInt8)×Int)) (dA:List ((List UInt8)×Int)) (hA:List (Int×Bool)):St U El:=⟨[(10,(.mp 56)),(13,(.mp 73)),(24,(.ful 24)),(25,(.mp 124)),(125,(.lst .rule gA)),(126,(.int .i64 iA)),(127,(.int .i64 fA))],[(24,(.rows .int cA)),(56,(.map .str .int bA)),(73,(.map .str .int dA)),(124,(.map .int .bool hA))]⟩
noncomputable def fr15 (cA:List Int) (cB:Int) (gA:List Rule) (iA:Int) (fA:Int) (tA:List UInt8) (uA:List Cnd) (vA:List UInt8) (sA:Int) (bA:List ((List UInt8)×Int)) (dA:List ((List UInt8)×Int)) (hA:List (Int×Bool)):St U El:=⟨[(10,(.mp 56)),(13,(.mp 73)),(24,(.ful 24)),(25,(.mp 124)),(27,(.ptr 27 0)),(28,(.int .i64 cB)),(125,(.lst .rule gA)),(126,(.int .i64 iA)),(127,(.int .i64 fA))],[(24,(.rows .int cA)),(27,(.box 0 [(.str tA),(.lst .cnd uA),(.str vA),(.int .i64 sA)])),(56,(.map .str .int bA)),(73,(.map .str .int dA)),(124,(.map .int .bool hA))]⟩
noncomputable def sh0 (l:List Rule) (n:Net) (v:List Int) (bf:List Int) (k1:Y1):R :=
  condB (!(rulesB l)) (some ((.tup [(.ful 0),(.int .i64 (1:Int))]),[(0,.rows .int ([]:List Int))])) (chk (okN n) (condB (!(netB n)) (some ((.tup [(.ful 0),(.int .i64 (1:Int))]),[(0,.rows .int ([]:List Int))])) (condB ((Int.ofNat (List.length v)) != (Int.ofNat (List.length n.nds))) (some ((.tup [(.ful 0),(.int .i64 (3:Int))]),[(0,.rows .int ([]:List Int))])) (condB ((Int.ofNat (List.length bf)) != (Int.ofNat (List.length n.lks))) (some ((.tup [(.ful 0),(.int .i64 (3:Int))]),[(0,.rows .int ([]:List Int))])) (chk (nle (List.length bf) 90000) (condB (List.any bf notSet) (some ((.tup [(.ful 0),(.int .i64 (2:Int))]),[(0,.rows .int ([]:List Int))])) (k1 l v bf n.nds n.lks)))))))
noncomputable def sh1 (l0:List Rule) (eA:List Int) (aA:List Int) (nA:List Node) (oA:List Lnk) (k3:Y3):R :=
  k3 l0 eA aA nA (Int.ofNat (List.length nA)) (0:Int) nA oA ([]:List ((List UInt8)×Int))
noncomputable def sh2 (l0:List Rule) (aA:List Int) (nA:List Node) (oA:List Lnk) (bA:List ((List UInt8)×Int)) (k5:Y5):R :=
  k5 l0 aA oA (Int.ofNat (List.length oA)) (0:Int) bA ([]:List ((List UInt8)×Int))
noncomputable def sh3 (l0:List Rule) (eA:List Int) (aA:List Int) (yA:List Node) (aB:Int) (wA:Int) (nA:List Node) (oA:List Lnk) (bA:List ((List UInt8)×Int)) (k2:Y2) (k3:Y3):R :=
  condB (ilt wA aB) (chk (inb wA (List.length yA)) (chk (inb wA (List.length eA)) (k3 l0 eA aA yA aB (IntKind.wrap .i64 (wA+(1:Int))) nA oA (mput kq_str bA ((List.getD yA (Int.toNat wA) d_node).nn) (List.getD eA (Int.toNat wA) d_int))))) (k2 l0 aA nA oA bA)
noncomputable def sh4 (l0:List Rule) (aA:List Int) (bA:List ((List UInt8)×Int)) (dA:List ((List UInt8)×Int)) (k7:Y7):R :=
  k7 l0 aA l0 (Int.ofNat (List.length l0)) (0:Int) bA dA
noncomputable def sh5 (l0:List Rule) (aA:List Int) (zA:List Lnk) (bB:Int) (xA:Int) (bA:List ((List UInt8)×Int)) (dA:List ((List UInt8)×Int)) (k4:Y4) (k5:Y5):R :=
  condB (ilt xA bB) (chk (inb xA (List.length zA)) (k5 l0 aA zA bB (IntKind.wrap .i64 (xA+(1:Int))) bA (mput kq_str dA ((List.getD zA (Int.toNat xA) d_link).ln) xA))) (k4 l0 aA bA dA)
noncomputable def sh6 (l0:List Rule) (aA:List Int) (bA:List ((List UInt8)×Int)) (dA:List ((List UInt8)×Int)) (dB:Y13):R :=
  chk (nle (List.length aA) 90000) (dB (aA) l0 (Int.ofNat (List.length l0)) (0:Int) bA dA ([]:List (Int×Bool)))
noncomputable def sh7 (l0:List Rule) (aA:List Int) (kA:List Rule) (mA:Int) (jA:Int) (bA:List ((List UInt8)×Int)) (dA:List ((List UInt8)×Int)) (k6:Y6) (eB:Y10):R :=
  condB (ilt jA mA) (chk (inb jA (List.length kA)) (eB l0 aA (mhas kq_str dA ((List.getD kA (Int.toNat jA) d_rule).rl)) kA mA jA ((List.getD kA (Int.toNat jA) d_rule).rw) (Int.ofNat (List.length ((List.getD kA (Int.toNat jA) d_rule).rw))) (0:Int) bA dA)) (k6 l0 aA bA dA)
noncomputable def sh8 (l0:List Rule) (aA:List Int) (kA:List Rule) (mA:Int) (jA:Int) (bA:List ((List UInt8)×Int)) (dA:List ((List UInt8)×Int)) (k7:Y7):R :=
  k7 l0 aA kA mA (IntKind.wrap .i64 (jA+(1:Int))) bA dA
noncomputable def sh9 (l0:List Rule) (aA:List Int) (lA:Bool) (kA:List Rule) (mA:Int) (jA:Int) (bA:List ((List UInt8)×Int)) (dA:List ((List UInt8)×Int)) (k8:Y8):R :=
  condB (!lA) (some ((.tup [(.ful 0),(.int .i64 (9:Int))]),[(0,.rows .int ([]:List Int))])) (k8 l0 aA kA mA jA bA dA)
noncomputable def sh10 (l0:List Rule) (aA:List Int) (lA:Bool) (kA:List Rule) (mA:Int) (jA:Int) (qA:List Cnd) (rA:Int) (pA:Int) (bA:List ((List UInt8)×Int)) (dA:List ((List UInt8)×Int)) (k9:Y9) (k11:Y11):R :=
  condB (ilt pA rA) (chk (inb pA (List.length qA)) (condB lA (k11 l0 aA (mhas kq_str bA ((List.getD qA (Int.toNat pA) d_cnd).cn)) kA mA jA qA rA pA bA dA) (k11 l0 aA false kA mA jA qA rA pA bA dA))) (k9 l0 aA lA kA mA jA bA dA)
noncomputable def sh11 (l0:List Rule) (aA:List Int) (lA:Bool) (kA:List Rule) (mA:Int) (jA:Int) (qA:List Cnd) (rA:Int) (pA:Int) (bA:List ((List UInt8)×Int)) (dA:List ((List UInt8)×Int)) (eB:Y10):R :=
  eB l0 aA lA kA mA jA qA rA (IntKind.wrap .i64 (pA+(1:Int))) bA dA
noncomputable def sh12 (cA:List Int):R :=
  some ((.tup [(.ful 0),(.int .i64 (0:Int))]),[(0,.rows .int cA)])
noncomputable def sh13 (cA:List Int) (gA:List Rule) (iA:Int) (fA:Int) (bA:List ((List UInt8)×Int)) (dA:List ((List UInt8)×Int)) (hA:List (Int×Bool)) (k12:Y12) (k14:Y14) (k15:Y15):R :=
  condB (ilt fA iA) (chk (inb fA (List.length gA)) (chk (nle (List.length (Rule.rw (List.getD gA (Int.toNat fA) d_rule))) 90000) (condB (!(!(List.any (Rule.rw (List.getD gA (Int.toNat fA) d_rule)) (failsM bA)))) (k14 cA gA iA fA bA dA hA) (condB (mgetD kq_int hA (mgetD kq_str dA ((List.getD gA (Int.toNat fA) d_rule).rl) d_int) d_bool) (chk (inb (mgetD kq_str dA ((List.getD gA (Int.toNat fA) d_rule).rl) d_int) (List.length cA)) (chk (nlt (Int.toNat (mgetD kq_str dA ((List.getD gA (Int.toNat fA) d_rule).rl) d_int)) (List.length cA)) (condB ((List.getD cA (Int.toNat (mgetD kq_str dA ((List.getD gA (Int.toNat fA) d_rule).rl) d_int)) d_int) != (List.getD gA (Int.toNat fA) d_rule).rs) (some ((.tup [(.ful 0),(.int .i64 (26:Int))]),[(0,.rows .int ([]:List Int))])) (k15 cA (mgetD kq_str dA ((List.getD gA (Int.toNat fA) d_rule).rl) d_int) gA iA fA ((List.getD gA (Int.toNat fA) d_rule).rn) ((List.getD gA (Int.toNat fA) d_rule).rw) ((List.getD gA (Int.toNat fA) d_rule).rl) ((List.getD gA (Int.toNat fA) d_rule).rs) bA dA hA)))) (k15 cA (mgetD kq_str dA ((List.getD gA (Int.toNat fA) d_rule).rl) d_int) gA iA fA ((List.getD gA (Int.toNat fA) d_rule).rn) ((List.getD gA (Int.toNat fA) d_rule).rw) ((List.getD gA (Int.toNat fA) d_rule).rl) ((List.getD gA (Int.toNat fA) d_rule).rs) bA dA hA))))) (k12 cA)
noncomputable def sh14 (cA:List Int) (gA:List Rule) (iA:Int) (fA:Int) (bA:List ((List UInt8)×Int)) (dA:List ((List UInt8)×Int)) (hA:List (Int×Bool)) (dB:Y13):R :=
  dB cA gA iA (IntKind.wrap .i64 (fA+(1:Int))) bA dA hA
noncomputable def sh15 (cA:List Int) (cB:Int) (gA:List Rule) (iA:Int) (fA:Int) (tA:List UInt8) (uA:List Cnd) (vA:List UInt8) (sA:Int) (bA:List ((List UInt8)×Int)) (dA:List ((List UInt8)×Int)) (hA:List (Int×Bool)) (k14:Y14):R :=
  chk (inb cB (List.length cA)) (chk (nlt (Int.toNat cB) (List.length cA)&&true) (k14 (List.set cA (Int.toNat cB) sA) gA iA fA bA dA (mput kq_int hA cB true)))
noncomputable def it3 (Kb2:Kont U El) (n:Nat):Kont U El:=iter nm3 (fun st' K'=>exec X (cdp [1,1,1,0,1,0,0] bd) (.seq none .d (.seq none .d (.seq none (.block (.seq none .d (.region [(7,56)]))) .d))) st' K' (Eblk 1 (cutK nm2 Kb2) (fun _ _=>none)) RR) n
noncomputable def it5 (Kb4:Kont U El) (n:Nat):Kont U El:=iter nm5 (fun st' K'=>exec X (cdp [1,1,1,1,1,0,1,0,0] bd) .d st' K' (Eblk 3 (cutK nm4 Kb4) (fun _ _=>none)) RR) n
noncomputable def it7 (Kb6:Kont U El) (n:Nat):Kont U El:=iter nm7 (fun st' K'=>exec X (cdp [1,1,1,1,1,1,0,1,0,0] bd) (.seq none .d (.seq none .d (.seq (some nm8) (.block (.seq none .d (.seq none .d (.seq (some nm9) (.seq none .d (.block (.loop nm10 (.seq none .d (.seq none .d (.seq (some nm11) .d .d)))))) .d)))) .d))) st' K' (Eblk 5 (cutK nm6 Kb6) (fun _ _=>none)) RR) n
noncomputable def it10 (Kb6:Kont U El) (Kb8:Kont U El) (Kb9:Kont U El) (n:Nat):Kont U El:=iter nm10 (fun st' K'=>exec X (cdp [1,1,1,1,1,1,0,1,0,0,1,1,0,0,1,1,0,1,0,0] bd) (.seq none .d (.seq none .d (.seq (some nm11) .d .d))) st' K' (Eblk 7 (cutK nm9 Kb9) (Eblk 6 (cutK nm8 Kb8) (Eblk 5 (cutK nm6 Kb6) (fun _ _=>none)))) RR) n
noncomputable def it13 (Kb12:Kont U El) (n:Nat):Kont U El:=iter nm13 (fun st' K'=>exec X (cdp [1,1,1,1,1,1,1,1,1,0,1,0,0] bd) (.seq none .d (.seq none .d (.seq (some nm14) (.block (.seq none .d (.seq none .d (.seq none .d (.seq (some nm15) .d .d))))) .d))) st' K' (Eblk 9 (cutK nm12 Kb12) (fun _ _=>none)) RR) n
noncomputable def ct1:Kont U El:=fun st=>exec X (cdp [1,1] bd) (.seq none .d (.seq (some nm2) (.seq none .d (.block (.loop nm3 (.seq none .d (.seq none .d (.seq none (.block (.seq none .d (.region [(7,56)]))) .d)))))) (.seq none .d (.seq (some nm4) (.seq none .d (.block (.loop nm5 .d))) (.seq (some nm6) (.seq none .d (.block (.loop nm7 (.seq none .d (.seq none .d (.seq (some nm8) (.block (.seq none .d (.seq none .d (.seq (some nm9) (.seq none .d (.block (.loop nm10 (.seq none .d (.seq none .d (.seq (some nm11) .d .d)))))) .d)))) .d)))))) (.seq none .d (.seq none .d (.seq (some nm12) (.seq none .d (.block (.loop nm13 (.seq none .d (.seq none .d (.seq (some nm14) (.block (.seq none .d (.seq none .d (.seq none .d (.seq (some nm15) .d .d))))) .d)))))) .d)))))))) st RR (fun _ _=>none) RR
noncomputable def ct2:Kont U El:=fun st=>exec X (cdp [1,1,1,1] bd) (.seq none .d (.seq (some nm4) (.seq none .d (.block (.loop nm5 .d))) (.seq (some nm6) (.seq none .d (.block (.loop nm7 (.seq none .d (.seq none .d (.seq (some nm8) (.block (.seq none .d (.seq none .d (.seq (some nm9) (.seq none .d (.block (.loop nm10 (.seq none .d (.seq none .d (.seq (some nm11) .d .d)))))) .d)))) .d)))))) (.seq none .d (.seq none .d (.seq (some nm12) (.seq none .d (.block (.loop nm13 (.seq none .d (.seq none .d (.seq (some nm14) (.block (.seq none .d (.seq none .d (.seq none .d (.seq (some nm15) .d .d))))) .d)))))) .d)))))) st RR (fun _ _=>none) RR
noncomputable def ct4:Kont U El:=fun st=>exec X (cdp [1,1,1,1,1,1] bd) (.seq (some nm6) (.seq none .d (.block (.loop nm7 (.seq none .d (.seq none .d (.seq (some nm8) (.block (.seq none .d (.seq none .d (.seq (some nm9) (.seq none .d (.block (.loop nm10 (.seq none .d (.seq none .d (.seq (some nm11) .d .d)))))) .d)))) .d)))))) (.seq none .d (.seq none .d (.seq (some nm12) (.seq none .d (.block (.loop nm13 (.seq none .d (.seq none .d (.seq (some nm14) (.block (.seq none .d (.seq none .d (.seq none .d (.seq (some nm15) .d .d))))) .d)))))) .d)))) st RR (fun _ _=>none) RR
noncomputable def ct6:Kont U El:=fun st=>exec X (cdp [1,1,1,1,1,1,1] bd) (.seq none .d (.seq none .d (.seq (some nm12) (.seq none .d (.block (.loop nm13 (.seq none .d (.seq none .d (.seq (some nm14) (.block (.seq none .d (.seq none .d (.seq none .d (.seq (some nm15) .d .d))))) .d)))))) .d))) st RR (fun _ _=>none) RR
noncomputable def ct8 (Kb6:Kont U El) (Kb7:Kont U El):Kont U El:=fun st=>exec X (cdp [1,1,1,1,1,1,0,1,0,0,1,1,1] bd) .d st (cutK nm7 Kb7) (Eblk 5 (cutK nm6 Kb6) (fun _ _=>none)) RR
noncomputable def ct9 (Kb6:Kont U El) (Kb8:Kont U El):Kont U El:=fun st=>exec X (cdp [1,1,1,1,1,1,0,1,0,0,1,1,0,0,1,1,1] bd) .d st (cutK nm8 Kb8) (Eblk 6 (cutK nm8 Kb8) (Eblk 5 (cutK nm6 Kb6) (fun _ _=>none))) RR
noncomputable def ct11 (Kb6:Kont U El) (Kb8:Kont U El) (Kb9:Kont U El) (Kb10:Kont U El):Kont U El:=fun st=>exec X (cdp [1,1,1,1,1,1,0,1,0,0,1,1,0,0,1,1,0,1,0,0,1,1,1] bd) .d st (cutK nm10 Kb10) (Eblk 7 (cutK nm9 Kb9) (Eblk 6 (cutK nm8 Kb8) (Eblk 5 (cutK nm6 Kb6) (fun _ _=>none)))) RR
noncomputable def ct12:Kont U El:=fun st=>exec X (cdp [1,1,1,1,1,1,1,1,1,1] bd) .d st RR (fun _ _=>none) RR
noncomputable def ct14 (Kb12:Kont U El) (Kb13:Kont U El):Kont U El:=fun st=>exec X (cdp [1,1,1,1,1,1,1,1,1,0,1,0,0,1,1,1] bd) .d st (cutK nm13 Kb13) (Eblk 9 (cutK nm12 Kb12) (fun _ _=>none)) RR
noncomputable def ct15 (Kb12:Kont U El) (Kb14:Kont U El):Kont U El:=fun st=>exec X (cdp [1,1,1,1,1,1,1,1,1,0,1,0,0,1,1,0,0,1,1,1,1] bd) .d st (cutK nm14 Kb14) (Eblk 10 (cutK nm14 Kb14) (Eblk 9 (cutK nm12 Kb12) (fun _ _=>none))) RR
theorem P0 (l n v bf):exec X (cdp [] bd) (.seq none .d (.seq (some nm1) .d (.seq none .d (.seq (some nm2) (.seq none .d (.block (.loop nm3 (.seq none .d (.seq none .d (.seq none (.block (.seq none .d (.region [(7,56)]))) .d)))))) (.seq none .d (.seq (some nm4) (.seq none .d (.block (.loop nm5 .d))) (.seq (some nm6) (.seq none .d (.block (.loop nm7 (.seq none .d (.seq none .d (.seq (some nm8) (.block (.seq none .d (.seq none .d (.seq (some nm9) (.seq none .d (.block (.loop nm10 (.seq none .d (.seq none .d (.seq (some nm11) .d .d)))))) .d)))) .d)))))) (.seq none .d (.seq none .d (.seq (some nm12) (.seq none .d (.block (.loop nm13 (.seq none .d (.seq none .d (.seq (some nm14) (.block (.seq none .d (.seq none .d (.seq none .d (.seq (some nm15) .d .d))))) .d)))))) .d)))))))))) (fr0 l n v bf) RR (fun _ _=>none) RR=sh0 l n v bf (fun y0 y1 y2 y3 y4=>(hid ct1) (fr1 y0 y1 y2 y3 y4)):=by kernel_rfl
theorem P1 (l0 eA aA nA oA):exec X (cdp [1,1] bd) (.seq none .d (.seq (some nm2) (.seq none .d (.block (.loop nm3 (.seq none .d (.seq none .d (.seq none (.block (.seq none .d (.region [(7,56)]))) .d)))))) (.seq none .d (.seq (some nm4) (.seq none .d (.block (.loop nm5 .d))) (.seq (some nm6) (.seq none .d (.block (.loop nm7 (.seq none .d (.seq none .d (.seq (some nm8) (.block (.seq none .d (.seq none .d (.seq (some nm9) (.seq none .d (.block (.loop nm10 (.seq none .d (.seq none .d (.seq (some nm11) .d .d)))))) .d)))) .d)))))) (.seq none .d (.seq none .d (.seq (some nm12) (.seq none .d (.block (.loop nm13 (.seq none .d (.seq none .d (.seq (some nm14) (.block (.seq none .d (.seq none .d (.seq none .d (.seq (some nm15) .d .d))))) .d)))))) .d)))))))) (fr1 l0 eA aA nA oA) RR (fun _ _=>none) RR=sh1 l0 eA aA nA oA (fun y0 y1 y2 y3 y4 y5 y6 y7 y8=>(hid (it3 (hid ct2) 100000)) (fr3 y0 y1 y2 y3 y4 y5 y6 y7 y8)):=by kernel_rfl
theorem P2 (l0 aA nA oA bA):exec X (cdp [1,1,1,1] bd) (.seq none .d (.seq (some nm4) (.seq none .d (.block (.loop nm5 .d))) (.seq (some nm6) (.seq none .d (.block (.loop nm7 (.seq none .d (.seq none .d (.seq (some nm8) (.block (.seq none .d (.seq none .d (.seq (some nm9) (.seq none .d (.block (.loop nm10 (.seq none .d (.seq none .d (.seq (some nm11) .d .d)))))) .d)))) .d)))))) (.seq none .d (.seq none .d (.seq (some nm12) (.seq none .d (.block (.loop nm13 (.seq none .d (.seq none .d (.seq (some nm14) (.block (.seq none .d (.seq none .d (.seq none .d (.seq (some nm15) .d .d))))) .d)))))) .d)))))) (fr2 l0 aA nA oA bA) RR (fun _ _=>none) RR=sh2 l0 aA nA oA bA (fun y0 y1 y2 y3 y4 y5 y6=>(hid (it5 (hid ct4) 100000)) (fr5 y0 y1 y2 y3 y4 y5 y6)):=by kernel_rfl
theorem P3 (l0 eA aA yA aB wA nA oA bA) (Kb2:Kont U El) (Kb3:Kont U El):exec X (cdp [1,1,1,0,1,0,0] bd) (.seq none .d (.seq none .d (.seq none (.block (.seq none .d (.region [(7,56)]))) .d))) (fr3 l0 eA aA yA aB wA nA oA bA) (cutK nm3 Kb3) (Eblk 1 (cutK nm2 Kb2) (fun _ _=>none)) RR=sh3 l0 eA aA yA aB wA nA oA bA (fun y0 y1 y2 y3 y4=>Kb2 (fr2 y0 y1 y2 y3 y4)) (fun y0 y1 y2 y3 y4 y5 y6 y7 y8=>Kb3 (fr3 y0 y1 y2 y3 y4 y5 y6 y7 y8)):=by kernel_rfl
theorem P4 (l0 aA bA dA):exec X (cdp [1,1,1,1,1,1] bd) (.seq (some nm6) (.seq none .d (.block (.loop nm7 (.seq none .d (.seq none .d (.seq (some nm8) (.block (.seq none .d (.seq none .d (.seq (some nm9) (.seq none .d (.block (.loop nm10 (.seq none .d (.seq none .d (.seq (some nm11) .d .d)))))) .d)))) .d)))))) (.seq none .d (.seq none .d (.seq (some nm12) (.seq none .d (.block (.loop nm13 (.seq none .d (.seq none .d (.seq (some nm14) (.block (.seq none .d (.seq none .d (.seq none .d (.seq (some nm15) .d .d))))) .d)))))) .d)))) (fr4 l0 aA bA dA) RR (fun _ _=>none) RR=sh4 l0 aA bA dA (fun y0 y1 y2 y3 y4 y5 y6=>(hid (it7 (hid ct6) 100000)) (fr7 y0 y1 y2 y3 y4 y5 y6)):=by kernel_rfl
theorem P5 (l0 aA zA bB xA bA dA) (Kb4:Kont U El) (Kb5:Kont U El):exec X (cdp [1,1,1,1,1,0,1,0,0] bd) .d (fr5 l0 aA zA bB xA bA dA) (cutK nm5 Kb5) (Eblk 3 (cutK nm4 Kb4) (fun _ _=>none)) RR=sh5 l0 aA zA bB xA bA dA (fun y0 y1 y2 y3=>Kb4 (fr4 y0 y1 y2 y3)) (fun y0 y1 y2 y3 y4 y5 y6=>Kb5 (fr5 y0 y1 y2 y3 y4 y5 y6)):=by kernel_rfl
theorem P6 (l0 aA bA dA):exec X (cdp [1,1,1,1,1,1,1] bd) (.seq none .d (.seq none .d (.seq (some nm12) (.seq none .d (.block (.loop nm13 (.seq none .d (.seq none .d (.seq (some nm14) (.block (.seq none .d (.seq none .d (.seq none .d (.seq (some nm15) .d .d))))) .d)))))) .d))) (fr6 l0 aA bA dA) RR (fun _ _=>none) RR=sh6 l0 aA bA dA (fun y0 y1 y2 y3 y4 y5 y6=>(hid (it13 (hid ct12) 100000)) (fr13 y0 y1 y2 y3 y4 y5 y6)):=by kernel_rfl
theorem P7 (l0 aA kA mA jA bA dA) (Kb6:Kont U El) (Kb7:Kont U El):exec X (cdp [1,1,1,1,1,1,0,1,0,0] bd) (.seq none .d (.seq none .d (.seq (some nm8) (.block (.seq none .d (.seq none .d (.seq (some nm9) (.seq none .d (.block (.loop nm10 (.seq none .d (.seq none .d (.seq (some nm11) .d .d)))))) .d)))) .d))) (fr7 l0 aA kA mA jA bA dA) (cutK nm7 Kb7) (Eblk 5 (cutK nm6 Kb6) (fun _ _=>none)) RR=sh7 l0 aA kA mA jA bA dA (fun y0 y1 y2 y3=>Kb6 (fr6 y0 y1 y2 y3)) (fun y0 y1 y2 y3 y4 y5 y6 y7 y8 y9 y10=>(hid (it10 Kb6 (hid (ct8 Kb6 Kb7)) (hid (ct9 Kb6 (hid (ct8 Kb6 Kb7)))) 100000)) (fr10 y0 y1 y2 y3 y4 y5 y6 y7 y8 y9 y10)):=by kernel_rfl
theorem P8 (l0 aA kA mA jA bA dA) (Kb6:Kont U El) (Kb7:Kont U El):exec X (cdp [1,1,1,1,1,1,0,1,0,0,1,1,1] bd) .d (fr8 l0 aA kA mA jA bA dA) (cutK nm7 Kb7) (Eblk 5 (cutK nm6 Kb6) (fun _ _=>none)) RR=sh8 l0 aA kA mA jA bA dA (fun y0 y1 y2 y3 y4 y5 y6=>Kb7 (fr7 y0 y1 y2 y3 y4 y5 y6)):=by kernel_rfl
theorem P9 (l0 aA lA kA mA jA bA dA) (Kb6:Kont U El) (Kb8:Kont U El):exec X (cdp [1,1,1,1,1,1,0,1,0,0,1,1,0,0,1,1,1] bd) .d (fr9 l0 aA lA kA mA jA bA dA) (cutK nm8 Kb8) (Eblk 6 (cutK nm8 Kb8) (Eblk 5 (cutK nm6 Kb6) (fun _ _=>none))) RR=sh9 l0 aA lA kA mA jA bA dA (fun y0 y1 y2 y3 y4 y5 y6=>Kb8 (fr8 y0 y1 y2 y3 y4 y5 y6)):=by kernel_rfl
theorem P10 (l0 aA lA kA mA jA qA rA pA bA dA) (Kb6:Kont U El) (Kb8:Kont U El) (Kb9:Kont U El) (Kb10:Kont U El):exec X (cdp [1,1,1,1,1,1,0,1,0,0,1,1,0,0,1,1,0,1,0,0] bd) (.seq none .d (.seq none .d (.seq (some nm11) .d .d))) (fr10 l0 aA lA kA mA jA qA rA pA bA dA) (cutK nm10 Kb10) (Eblk 7 (cutK nm9 Kb9) (Eblk 6 (cutK nm8 Kb8) (Eblk 5 (cutK nm6 Kb6) (fun _ _=>none)))) RR=sh10 l0 aA lA kA mA jA qA rA pA bA dA (fun y0 y1 y2 y3 y4 y5 y6 y7=>Kb9 (fr9 y0 y1 y2 y3 y4 y5 y6 y7)) (fun y0 y1 y2 y3 y4 y5 y6 y7 y8 y9 y10=>(hid (ct11 Kb6 Kb8 Kb9 Kb10)) (fr11 y0 y1 y2 y3 y4 y5 y6 y7 y8 y9 y10)):=by kernel_rfl
theorem P11 (l0 aA lA kA mA jA qA rA pA bA dA) (Kb6:Kont U El) (Kb8:Kont U El) (Kb9:Kont U El) (Kb10:Kont U El):exec X (cdp [1,1,1,1,1,1,0,1,0,0,1,1,0,0,1,1,0,1,0,0,1,1,1] bd) .d (fr11 l0 aA lA kA mA jA qA rA pA bA dA) (cutK nm10 Kb10) (Eblk 7 (cutK nm9 Kb9) (Eblk 6 (cutK nm8 Kb8) (Eblk 5 (cutK nm6 Kb6) (fun _ _=>none)))) RR=sh11 l0 aA lA kA mA jA qA rA pA bA dA (fun y0 y1 y2 y3 y4 y5 y6 y7 y8 y9 y10=>Kb10 (fr10 y0 y1 y2 y3 y4 y5 y6 y7 y8 y9 y10)):=by kernel_rfl
theorem P12 (cA):exec X (cdp [1,1,1,1,1,1,1,1,1,1] bd) .d (fr12 cA) RR (fun _ _=>none) RR=sh12 cA:=by kernel_rfl
theorem P13 (cA gA iA fA bA dA hA) (Kb12:Kont U El) (Kb13:Kont U El):exec X (cdp [1,1,1,1,1,1,1,1,1,0,1,0,0] bd) (.seq none .d (.seq none .d (.seq (some nm14) (.block (.seq none .d (.seq none .d (.seq none .d (.seq (some nm15) .d .d))))) .d))) (fr13 cA gA iA fA bA dA hA) (cutK nm13 Kb13) (Eblk 9 (cutK nm12 Kb12) (fun _ _=>none)) RR=sh13 cA gA iA fA bA dA hA (fun y0=>Kb12 (fr12 y0)) (fun y0 y1 y2 y3 y4 y5 y6=>(hid (ct14 Kb12 Kb13)) (fr14 y0 y1 y2 y3 y4 y5 y6)) (fun y0 y1 y2 y3 y4 y5 y6 y7 y8 y9 y10 y11=>(hid (ct15 Kb12 (hid (ct14 Kb12 Kb13)))) (fr15 y0 y1 y2 y3 y4 y5 y6 y7 y8 y9 y10 y11)):=by kernel_rfl
theorem P14 (cA gA iA fA bA dA hA) (Kb12:Kont U El) (Kb13:Kont U El):exec X (cdp [1,1,1,1,1,1,1,1,1,0,1,0,0,1,1,1] bd) .d (fr14 cA gA iA fA bA dA hA) (cutK nm13 Kb13) (Eblk 9 (cutK nm12 Kb12) (fun _ _=>none)) RR=sh14 cA gA iA fA bA dA hA (fun y0 y1 y2 y3 y4 y5 y6=>Kb13 (fr13 y0 y1 y2 y3 y4 y5 y6)):=by kernel_rfl
theorem P15 (cA cB gA iA fA tA uA vA sA bA dA hA) (Kb12:Kont U El) (Kb14:Kont U El):exec X (cdp [1,1,1,1,1,1,1,1,1,0,1,0,0,1,1,0,0,1,1,1,1] bd) .d (fr15 cA cB gA iA fA tA uA vA sA bA dA hA) (cutK nm14 Kb14) (Eblk 10 (cutK nm14 Kb14) (Eblk 9 (cutK nm12 Kb12) (fun _ _=>none))) RR=sh15 cA cB gA iA fA tA uA vA sA bA dA hA (fun y0 y1 y2 y3 y4 y5 y6=>Kb14 (fr14 y0 y1 y2 y3 y4 y5 y6)):=by kernel_rfl
noncomputable def f12 (cA:List Int):R:=sh12 cA
noncomputable def f14 (dB:Y13) (cA:List Int) (gA:List Rule) (iA:Int) (fA:Int) (bA:List ((List UInt8)×Int)) (dA:List ((List UInt8)×Int)) (hA:List (Int×Bool)):R:=sh14 cA gA iA fA bA dA hA dB
noncomputable def f15 (dB:Y13) (cA:List Int) (cB:Int) (gA:List Rule) (iA:Int) (fA:Int) (tA:List UInt8) (uA:List Cnd) (vA:List UInt8) (sA:Int) (bA:List ((List UInt8)×Int)) (dA:List ((List UInt8)×Int)) (hA:List (Int×Bool)):R:=sh15 cA cB gA iA fA tA uA vA sA bA dA hA (f14 dB)
noncomputable def f13:Nat→Y13
  | 0=>fun _ _ _ _ _ _ _=>none
  | n+1=>fun cA gA iA fA bA dA hA=>sh13 cA gA iA fA bA dA hA f12 (f14 (f13 n)) (f15 (f13 n))
noncomputable def f6 (l0:List Rule) (aA:List Int) (bA:List ((List UInt8)×Int)) (dA:List ((List UInt8)×Int)):R:=sh6 l0 aA bA dA (f13 100000)
noncomputable def f8 (k7:Y7) (l0:List Rule) (aA:List Int) (kA:List Rule) (mA:Int) (jA:Int) (bA:List ((List UInt8)×Int)) (dA:List ((List UInt8)×Int)):R:=sh8 l0 aA kA mA jA bA dA k7
noncomputable def f9 (k7:Y7) (l0:List Rule) (aA:List Int) (lA:Bool) (kA:List Rule) (mA:Int) (jA:Int) (bA:List ((List UInt8)×Int)) (dA:List ((List UInt8)×Int)):R:=sh9 l0 aA lA kA mA jA bA dA (f8 k7)
noncomputable def f11 (k7:Y7) (eB:Y10) (l0:List Rule) (aA:List Int) (lA:Bool) (kA:List Rule) (mA:Int) (jA:Int) (qA:List Cnd) (rA:Int) (pA:Int) (bA:List ((List UInt8)×Int)) (dA:List ((List UInt8)×Int)):R:=sh11 l0 aA lA kA mA jA qA rA pA bA dA eB
noncomputable def f10 (k7:Y7):Nat→Y10
  | 0=>fun _ _ _ _ _ _ _ _ _ _ _=>none
  | n+1=>fun l0 aA lA kA mA jA qA rA pA bA dA=>sh10 l0 aA lA kA mA jA qA rA pA bA dA (f9 k7) (f11 k7 (f10 k7 n))
noncomputable def f7:Nat→Y7
  | 0=>fun _ _ _ _ _ _ _=>none
  | n+1=>fun l0 aA kA mA jA bA dA=>sh7 l0 aA kA mA jA bA dA f6 (f10 (f7 n) 100000)
noncomputable def f4 (l0:List Rule) (aA:List Int) (bA:List ((List UInt8)×Int)) (dA:List ((List UInt8)×Int)):R:=sh4 l0 aA bA dA (f7 100000)
noncomputable def f5:Nat→Y5
  | 0=>fun _ _ _ _ _ _ _=>none
  | n+1=>fun l0 aA zA bB xA bA dA=>sh5 l0 aA zA bB xA bA dA f4 (f5 n)
noncomputable def f2 (l0:List Rule) (aA:List Int) (nA:List Node) (oA:List Lnk) (bA:List ((List UInt8)×Int)):R:=sh2 l0 aA nA oA bA (f5 100000)
noncomputable def f3:Nat→Y3
  | 0=>fun _ _ _ _ _ _ _ _ _=>none
  | n+1=>fun l0 eA aA yA aB wA nA oA bA=>sh3 l0 eA aA yA aB wA nA oA bA f2 (f3 n)
noncomputable def f1 (l0:List Rule) (eA:List Int) (aA:List Int) (nA:List Node) (oA:List Lnk):R:=sh1 l0 eA aA nA oA (f3 100000)
noncomputable def f0 (l:List Rule) (n:Net) (v:List Int) (bf:List Int):R:=sh0 l n v bf f1
theorem T12 (cA):(hid ct12) (fr12 cA)=f12 cA:=by
  refine (congrFun (hid_eq _) _).trans <| (P12 cA).trans ?_
  show _=sh12 cA
  rfl
theorem T14 (KL13:Kont U El) (dB:Y13) (h13:∀ cA gA iA fA bA dA hA,KL13 (fr13 cA gA iA fA bA dA hA)=dB cA gA iA fA bA dA hA) (cA gA iA fA bA dA hA):(hid (ct14 (hid ct12) KL13)) (fr14 cA gA iA fA bA dA hA)=f14 dB cA gA iA fA bA dA hA:=by
  refine (congrFun (hid_eq _) _).trans <| (P14 cA gA iA fA bA dA hA (hid ct12) KL13).trans ?_
  show _=sh14 cA gA iA fA bA dA hA dB
  simp only [h13]
theorem T15 (KL13:Kont U El) (dB:Y13) (h13:∀ cA gA iA fA bA dA hA,KL13 (fr13 cA gA iA fA bA dA hA)=dB cA gA iA fA bA dA hA) (cA cB gA iA fA tA uA vA sA bA dA hA):(hid (ct15 (hid ct12) (hid (ct14 (hid ct12) KL13)))) (fr15 cA cB gA iA fA tA uA vA sA bA dA hA)=f15 dB cA cB gA iA fA tA uA vA sA bA dA hA:=by
  refine (congrFun (hid_eq _) _).trans <| (P15 cA cB gA iA fA tA uA vA sA bA dA hA (hid ct12) (hid (ct14 (hid ct12) KL13))).trans ?_
  show _=sh15 cA cB gA iA fA tA uA vA sA bA dA hA (f14 dB)
  simp only [T14 KL13 dB h13]
theorem T13:∀ (n:Nat),∀ cA gA iA fA bA dA hA,it13 (hid ct12) n (fr13 cA gA iA fA bA dA hA)=f13 n cA gA iA fA bA dA hA:=by
  intro n
  induction n with
  | zero=>intros; rfl
  | succ n ih =>
    intro cA gA iA fA bA dA hA
    refine (P13 cA gA iA fA bA dA hA (hid ct12) (it13 (hid ct12) n)).trans ?_
    show _=sh13 cA gA iA fA bA dA hA f12 (f14 (f13 n)) (f15 (f13 n))
    simp only [T12,T14 (it13 (hid ct12) n) (f13 n) ih,T15 (it13 (hid ct12) n) (f13 n) ih]
theorem H13 (cA gA iA fA bA dA hA):hid (it13 (hid ct12) 100000) (fr13 cA gA iA fA bA dA hA)=f13 100000 cA gA iA fA bA dA hA:=(congrFun (hid_eq _) _).trans (T13 100000 cA gA iA fA bA dA hA)
theorem T6 (l0 aA bA dA):(hid ct6) (fr6 l0 aA bA dA)=f6 l0 aA bA dA:=by
  refine (congrFun (hid_eq _) _).trans <| (P6 l0 aA bA dA).trans ?_
  show _=sh6 l0 aA bA dA (f13 100000)
  simp only [H13]
theorem T8 (KL7:Kont U El) (k7:Y7) (h7:∀ l0 aA kA mA jA bA dA,KL7 (fr7 l0 aA kA mA jA bA dA)=k7 l0 aA kA mA jA bA dA) (l0 aA kA mA jA bA dA):(hid (ct8 (hid ct6) KL7)) (fr8 l0 aA kA mA jA bA dA)=f8 k7 l0 aA kA mA jA bA dA:=by
  refine (congrFun (hid_eq _) _).trans <| (P8 l0 aA kA mA jA bA dA (hid ct6) KL7).trans ?_
  show _=sh8 l0 aA kA mA jA bA dA k7
  simp only [h7]
theorem T9 (KL7:Kont U El) (k7:Y7) (h7:∀ l0 aA kA mA jA bA dA,KL7 (fr7 l0 aA kA mA jA bA dA)=k7 l0 aA kA mA jA bA dA) (l0 aA lA kA mA jA bA dA):(hid (ct9 (hid ct6) (hid (ct8 (hid ct6) KL7)))) (fr9 l0 aA lA kA mA jA bA dA)=f9 k7 l0 aA lA kA mA jA bA dA:=by
  refine (congrFun (hid_eq _) _).trans <| (P9 l0 aA lA kA mA jA bA dA (hid ct6) (hid (ct8 (hid ct6) KL7))).trans ?_
  show _=sh9 l0 aA lA kA mA jA bA dA (f8 k7)
  simp only [T8 KL7 k7 h7]
theorem T11 (KL7:Kont U El) (KL10:Kont U El) (k7:Y7) (eB:Y10) (h7:∀ l0 aA kA mA jA bA dA,KL7 (fr7 l0 aA kA mA jA bA dA)=k7 l0 aA kA mA jA bA dA) (h10:∀ l0 aA lA kA mA jA qA rA pA bA dA,KL10 (fr10 l0 aA lA kA mA jA qA rA pA bA dA)=eB l0 aA lA kA mA jA qA rA pA bA dA) (l0 aA lA kA mA jA qA rA pA bA dA):(hid (ct11 (hid ct6) (hid (ct8 (hid ct6) KL7)) (hid (ct9 (hid ct6) (hid (ct8 (hid ct6) KL7)))) KL10)) (fr11 l0 aA lA kA mA jA qA rA pA bA dA)=f11 k7 eB l0 aA lA kA mA jA qA rA pA bA dA:=by
  refine (congrFun (hid_eq _) _).trans <| (P11 l0 aA lA kA mA jA qA rA pA bA dA (hid ct6) (hid (ct8 (hid ct6) KL7)) (hid (ct9 (hid ct6) (hid (ct8 (hid ct6) KL7)))) KL10).trans ?_
  show _=sh11 l0 aA lA kA mA jA qA rA pA bA dA eB
  simp only [h10]
theorem T10 (KL7:Kont U El) (k7:Y7) (h7:∀ l0 aA kA mA jA bA dA,KL7 (fr7 l0 aA kA mA jA bA dA)=k7 l0 aA kA mA jA bA dA):∀ (n:Nat),∀ l0 aA lA kA mA jA qA rA pA bA dA,it10 (hid ct6) (hid (ct8 (hid ct6) KL7)) (hid (ct9 (hid ct6) (hid (ct8 (hid ct6) KL7)))) n (fr10 l0 aA lA kA mA jA qA rA pA bA dA)=f10 k7 n l0 aA lA kA mA jA qA rA pA bA dA:=by
  intro n
  induction n with
  | zero=>intros; rfl
  | succ n ih =>
    intro l0 aA lA kA mA jA qA rA pA bA dA
    refine (P10 l0 aA lA kA mA jA qA rA pA bA dA (hid ct6) (hid (ct8 (hid ct6) KL7)) (hid (ct9 (hid ct6) (hid (ct8 (hid ct6) KL7)))) (it10 (hid ct6) (hid (ct8 (hid ct6) KL7)) (hid (ct9 (hid ct6) (hid (ct8 (hid ct6) KL7)))) n)).trans ?_
    show _=sh10 l0 aA lA kA mA jA qA rA pA bA dA (f9 k7) (f11 k7 (f10 k7 n))
    simp only [T9 KL7 k7 h7,T11 KL7 (it10 (hid ct6) (hid (ct8 (hid ct6) KL7)) (hid (ct9 (hid ct6) (hid (ct8 (hid ct6) KL7)))) n) k7 (f10 k7 n) h7 ih]
theorem H10 (KL7:Kont U El) (k7:Y7) (h7:∀ l0 aA kA mA jA bA dA,KL7 (fr7 l0 aA kA mA jA bA dA)=k7 l0 aA kA mA jA bA dA) (l0 aA lA kA mA jA qA rA pA bA dA):hid (it10 (hid ct6) (hid (ct8 (hid ct6) KL7)) (hid (ct9 (hid ct6) (hid (ct8 (hid ct6) KL7)))) 100000) (fr10 l0 aA lA kA mA jA qA rA pA bA dA)=f10 k7 100000 l0 aA lA kA mA jA qA rA pA bA dA:=(congrFun (hid_eq _) _).trans (T10 KL7 k7 h7 100000 l0 aA lA kA mA jA qA rA pA bA dA)
theorem T7:∀ (n:Nat),∀ l0 aA kA mA jA bA dA,it7 (hid ct6) n (fr7 l0 aA kA mA jA bA dA)=f7 n l0 aA kA mA jA bA dA:=by
  intro n
  induction n with
  | zero=>intros; rfl
  | succ n ih =>
    intro l0 aA kA mA jA bA dA
    refine (P7 l0 aA kA mA jA bA dA (hid ct6) (it7 (hid ct6) n)).trans ?_
    show _=sh7 l0 aA kA mA jA bA dA f6 (f10 (f7 n) 100000)
    simp only [T6,H10 (it7 (hid ct6) n) (f7 n) ih]
theorem H7 (l0 aA kA mA jA bA dA):hid (it7 (hid ct6) 100000) (fr7 l0 aA kA mA jA bA dA)=f7 100000 l0 aA kA mA jA bA dA:=(congrFun (hid_eq _) _).trans (T7 100000 l0 aA kA mA jA bA dA)
theorem T4 (l0 aA bA dA):(hid ct4) (fr4 l0 aA bA dA)=f4 l0 aA bA dA:=by
  refine (congrFun (hid_eq _) _).trans <| (P4 l0 aA bA dA).trans ?_
  show _=sh4 l0 aA bA dA (f7 100000)
  simp only [H7]
theorem T5:∀ (n:Nat),∀ l0 aA zA bB xA bA dA,it5 (hid ct4) n (fr5 l0 aA zA bB xA bA dA)=f5 n l0 aA zA bB xA bA dA:=by
  intro n
  induction n with
  | zero=>intros; rfl
  | succ n ih =>
    intro l0 aA zA bB xA bA dA
    refine (P5 l0 aA zA bB xA bA dA (hid ct4) (it5 (hid ct4) n)).trans ?_
    show _=sh5 l0 aA zA bB xA bA dA f4 (f5 n)
    simp only [T4,ih]
theorem H5 (l0 aA zA bB xA bA dA):hid (it5 (hid ct4) 100000) (fr5 l0 aA zA bB xA bA dA)=f5 100000 l0 aA zA bB xA bA dA:=(congrFun (hid_eq _) _).trans (T5 100000 l0 aA zA bB xA bA dA)
theorem T2 (l0 aA nA oA bA):(hid ct2) (fr2 l0 aA nA oA bA)=f2 l0 aA nA oA bA:=by
  refine (congrFun (hid_eq _) _).trans <| (P2 l0 aA nA oA bA).trans ?_
  show _=sh2 l0 aA nA oA bA (f5 100000)
  simp only [H5]
theorem T3:∀ (n:Nat),∀ l0 eA aA yA aB wA nA oA bA,it3 (hid ct2) n (fr3 l0 eA aA yA aB wA nA oA bA)=f3 n l0 eA aA yA aB wA nA oA bA:=by
  intro n
  induction n with
  | zero=>intros; rfl
  | succ n ih =>
    intro l0 eA aA yA aB wA nA oA bA
    refine (P3 l0 eA aA yA aB wA nA oA bA (hid ct2) (it3 (hid ct2) n)).trans ?_
    show _=sh3 l0 eA aA yA aB wA nA oA bA f2 (f3 n)
    simp only [T2,ih]
theorem H3 (l0 eA aA yA aB wA nA oA bA):hid (it3 (hid ct2) 100000) (fr3 l0 eA aA yA aB wA nA oA bA)=f3 100000 l0 eA aA yA aB wA nA oA bA:=(congrFun (hid_eq _) _).trans (T3 100000 l0 eA aA yA aB wA nA oA bA)
theorem T1 (l0 eA aA nA oA):(hid ct1) (fr1 l0 eA aA nA oA)=f1 l0 eA aA nA oA:=by
  refine (congrFun (hid_eq _) _).trans <| (P1 l0 eA aA nA oA).trans ?_
  show _=sh1 l0 eA aA nA oA (f3 100000)
  simp only [H3]
theorem T0 (l n v bf):exec X bd (.seq none .d (.seq (some nm1) .d (.seq none .d (.seq (some nm2) (.seq none .d (.block (.loop nm3 (.seq none .d (.seq none .d (.seq none (.block (.seq none .d (.region [(7,56)]))) .d)))))) (.seq none .d (.seq (some nm4) (.seq none .d (.block (.loop nm5 .d))) (.seq (some nm6) (.seq none .d (.block (.loop nm7 (.seq none .d (.seq none .d (.seq (some nm8) (.block (.seq none .d (.seq none .d (.seq (some nm9) (.seq none .d (.block (.loop nm10 (.seq none .d (.seq none .d (.seq (some nm11) .d .d)))))) .d)))) .d)))))) (.seq none .d (.seq none .d (.seq (some nm12) (.seq none .d (.block (.loop nm13 (.seq none .d (.seq none .d (.seq (some nm14) (.block (.seq none .d (.seq none .d (.seq none .d (.seq (some nm15) .d .d))))) .d)))))) .d)))))))))) (fr0 l n v bf) RR (fun _ _=>none) RR=f0 l n v bf:=by
  refine (P0 l n v bf).trans ?_
  show _=sh0 l n v bf f1
  simp only [T1]
theorem run (l n v bf):runFn X bd (.seq none .d (.seq (some nm1) .d (.seq none .d (.seq (some nm2) (.seq none .d (.block (.loop nm3 (.seq none .d (.seq none .d (.seq none (.block (.seq none .d (.region [(7,56)]))) .d)))))) (.seq none .d (.seq (some nm4) (.seq none .d (.block (.loop nm5 .d))) (.seq (some nm6) (.seq none .d (.block (.loop nm7 (.seq none .d (.seq none .d (.seq (some nm8) (.block (.seq none .d (.seq none .d (.seq (some nm9) (.seq none .d (.block (.loop nm10 (.seq none .d (.seq none .d (.seq (some nm11) .d .d)))))) .d)))) .d)))))) (.seq none .d (.seq none .d (.seq (some nm12) (.seq none .d (.block (.loop nm13 (.seq none .d (.seq none .d (.seq (some nm14) (.block (.seq none .d (.seq none .d (.seq none .d (.seq (some nm15) .d .d))))) .d)))))) .d)))))))))) nmR [8,9] [8] [(.lst .rule l),(.agg [(.lst .node n.nds),(.lst .link n.lks)]),(.lst .int v),(.lst .int bf)]=f0 l n v bf:=T0 l n v bf
theorem loop13 (n0 : Net) (l : List Rule) (hl : l.length ≤ 60) (hw : ∀ r ∈ l, r.rw.length ≤ 20) (am lm : List ((List UInt8) × Int)) (hm : ∀ r ∈ l, mgetD kq_str lm r.rl d_int = linkZ n0 r.rl) (hz : ∀ r ∈ l, 0 ≤ linkZ n0 r.rl ∧ linkZ n0 r.rl < (n0.lks.length : Int)) : ∀ (n i : Nat) (out : List Int) (st : List (Int × Bool)), l.length < n + i → i ≤ l.length → out.length = n0.lks.length →
    f13 n out l (Int.ofNat l.length) (i:Int) am lm st=outST (runS n0 am (l.drop i) out st):=by
  intro n
  induction n with
  | zero=>intro i out st h1 h2; omega
  | succ n ih =>
    intro i out st h1 h2 h3
    show sh13 out l (Int.ofNat l.length) (i:Int) am lm st f12 (f14 (f13 n)) (f15 (f13 n))=_
    unfold sh13
    by_cases hi:i < l.length
    · have hmem := List.getElem_mem hi
      have hr:=hw _ hmem
      obtain ⟨z1,z2⟩:=hz _ hmem
      obtain ⟨q,hq⟩:=Int.eq_ofNat_of_zero_le z1
      have hqo:q < out.length:=by omega
      have e1:f14 (f13 n) out l (Int.ofNat l.length) (i:Int) am lm st=outST (runS n0 am (l.drop (i+1)) out st):=by
        show f13 n out l (Int.ofNat l.length) (IntKind.wrap .i64 ((i:Int)+1)) am lm st=_
        rw [wrapS i (by omega)]
        exact ih (i+1) out st (by omega) hi h3
      have e2:f15 (f13 n) out (q:Int) l (Int.ofNat l.length) (i:Int) l[i].rn l[i].rw l[i].rl l[i].rs am lm st=outST (runS n0 am (l.drop (i+1)) (List.set out q l[i].rs) (mput kq_int st (q:Int) true)):=by
        show sh15 out (q:Int) l (Int.ofNat l.length) (i:Int) l[i].rn l[i].rw l[i].rl l[i].rs am lm st (f14 (f13 n))=_
        unfold sh15
        rw [inbT hqo,toNat_nat,nltT hqo]
        show f13 n (List.set out q l[i].rs) l (Int.ofNat l.length) (IntKind.wrap .i64 ((i:Int)+1)) am lm (mput kq_int st (q:Int) true)=_
        rw [wrapS i (by omega)]
        exact ih (i+1) _ _ (by omega) hi (by simpa using h3)
      rw [iltT (by simp; omega),inbT hi,toNat_nat i,getD_lt hi,drop_lt hi,nleT (show l[i].rw.length≤90000 by omega),hm _ hmem,hq,inbT hqo,toNat_nat q,nltT hqo,e1,e2]
      simp only [condT,chkT,runS]
      rw [hq,toNat_nat]
      cases List.any l[i].rw (failsM am) with
      | true=>rfl
      | false =>
        cases mgetD kq_int st (q:Int) d_bool with
        | false=>rfl
        | true =>
          cases List.getD out q d_int != l[i].rs<;>rfl
    · have : i = l.length := by omega
      subst this
      rw [iltF (by simp),List.drop_length]
      rfl
theorem loop10 (k7:Y7) (l:List Rule) (bf:List Int) (x:List Rule) (L i:Int) (w:List Cnd) (am lm:List ((List UInt8)×Int)) (hw:w.length≤90000) (hm:∀ c∈w,mhas kq_str am c.cn=true):∀ (n j:Nat),w.length < n+j→j≤w.length→f10 k7 n l bf true x L i w (Int.ofNat w.length) (j:Int) am lm=f8 k7 l bf x L i am lm:=by
  intro n
  induction n with
  | zero=>intro j h1 h2; omega
  | succ n ih =>
    intro j h1 h2
    show sh10 l bf true x L i w (Int.ofNat w.length) (j:Int) am lm (f9 k7) (f11 k7 (f10 k7 n))=_
    unfold sh10
    by_cases hj:j < w.length
    · rw [iltT (by simp; omega), inbT hj, toNat_nat, getD_lt hj, hm _ (List.getElem_mem hj)]
      show f10 k7 n l bf true x L i w (Int.ofNat w.length) (IntKind.wrap .i64 ((j:Int)+1)) am lm=_
      rw [wrapS j (by omega),ih (j+1) (by omega) hj]
    · have : j = w.length := by omega
      subst this
      rw [iltF (by simp)]
      rfl
theorem loop7 (l:List Rule) (bf:List Int) (am lm:List ((List UInt8)×Int)) (hl:l.length≤60) (hw:∀ r∈l,r.rw.length≤20) (hm:∀ r∈l,∀ c∈r.rw,mhas kq_str am c.cn=true) (hk:∀ r∈l,mhas kq_str lm r.rl=true):∀ (n i:Nat),l.length < n+i→i≤l.length→f7 n l bf l (Int.ofNat l.length) (i:Int) am lm=f6 l bf am lm:=by
  intro n
  induction n with
  | zero=>intro i h1 h2; omega
  | succ n ih =>
    intro i h1 h2
    show sh7 l bf l (Int.ofNat l.length) (i:Int) am lm f6 (f10 (f7 n) 100000)=_
    unfold sh7
    by_cases hi:i < l.length
    · have hmem := List.getElem_mem hi
      have hr:=hw _ hmem
      have e:=loop10 (f7 n) l bf l (Int.ofNat l.length) (i:Int) l[i].rw am lm (by omega) (hm _ hmem) 100000 0 (by omega) (by omega)
      rw [iltT (by simp; omega),inbT hi,toNat_nat,getD_lt hi,hk _ hmem,show ((0:Int))=((0:Nat):Int) from rfl,e]
      show f7 n l bf l (Int.ofNat l.length) (IntKind.wrap .i64 ((i:Int)+1)) am lm=_
      rw [wrapS i (by omega),ih (i+1) (by omega) hi]
    · have : i = l.length := by omega
      subst this
      rw [iltF (by simp)]
      rfl
theorem loop5 (l : List Rule) (bf : List Int) (n0 : Net) (hb : netB n0 = true) (hn : n0.lks.length ≤ 90000) (am : List ((List UInt8) × Int)) : ∀ (n i : Nat), n0.lks.length < n + i → i ≤ n0.lks.length → f5 n l bf n0.lks (Int.ofNat n0.lks.length) (i : Int) am (lnkM 0 (n0.lks.take i)) = f4 l bf am (lnkM 0 n0.lks) := by
  intro n
  induction n with
  | zero=>intro i h1 h2; omega
  | succ n ih =>
    intro i h1 h2
    show sh5 l bf n0.lks (Int.ofNat n0.lks.length) (i:Int) am (lnkM 0 (n0.lks.take i)) f4 (f5 n)=_
    unfold sh5
    by_cases hi:i < n0.lks.length
    · have h3 : mhas kq_str (lnkM 0 (n0.lks.take i)) n0.lks[i].ln = false := by unfold mhas; rw [mfind_lnk, link_new hb i hi]; rfl
      have h4:lnkM 0 (n0.lks.take i)++[(n0.lks[i].ln,(i:Int))]=lnkM 0 (n0.lks.take (i+1)):=by
        rw [take_lt hi,lnkM_snoc,List.length_take,Nat.zero_add,Nat.min_eq_left (by omega)]
      rw [iltT (by simp; omega),inbT hi,toNat_nat,getD_lt hi,mput_new h3,h4,wrapS i (by omega)]
      exact ih (i+1) (by omega) hi
    · have : i = n0.lks.length := by omega
      subst this
      rw [iltF (by simp),List.take_length]
      rfl
theorem loop3 (l : List Rule) (v bf : List Int) (n0 : Net) (hb : netB n0 = true) (hn : n0.nds.length ≤ 90000) (hv : v.length = n0.nds.length) : ∀ (n i : Nat), n0.nds.length < n + i → i ≤ n0.nds.length → f3 n l v bf n0.nds (Int.ofNat n0.nds.length) (i : Int) n0.nds n0.lks (List.zip ((namesL n0).take i) (v.take i)) = f2 l bf n0.nds n0.lks (List.zip (namesL n0) v) := by
  have hnl:(namesL n0).length=n0.nds.length:=by simp [namesL]
  intro n
  induction n with
  | zero=>intro i h1 h2; omega
  | succ n ih =>
    intro i h1 h2
    show sh3 l v bf n0.nds (Int.ofNat n0.nds.length) (i:Int) n0.nds n0.lks (List.zip ((namesL n0).take i) (v.take i)) f2 (f3 n)=_
    unfold sh3
    by_cases hi:i < n0.nds.length
    · have hv' : i < v.length := by omega
      have hni:i < (namesL n0).length:=by omega
      have hnm:(namesL n0)[i]=n0.nds[i].nn:=by simp [namesL]
      have h3:mhas kq_str (List.zip ((namesL n0).take i) (v.take i)) n0.nds[i].nn=false:=by
        rw [mhas_zip _ _ _ (by simp; omega),← hnm]
        have:=allI_iff.1 (dist_names hb) i _ (List.getElem?_eq_getElem hni)
        rw [Nat.zero_add] at this
        simpa using this
      have h4:List.zip ((namesL n0).take i) (v.take i)++[(n0.nds[i].nn,v[i])]=List.zip ((namesL n0).take (i+1)) (v.take (i+1)):=by
        rw [take_lt hni,take_lt hv',List.zip_append (by simp; omega),hnm]
        rfl
      rw [iltT (by simp; omega),inbT hi,inbT hv',toNat_nat,getD_lt hi,getD_lt hv',mput_new h3,h4,wrapS i (by omega)]
      exact ih (i+1) (by omega) hi
    · have : i = n0.nds.length := by omega
      subst this
      rw [iltF (by simp),List.take_of_length_le (by omega),List.take_of_length_le (by omega)]
      rfl
theorem f0_eq (l:List Rule) (n:Net) (v bf:List Int) (h:(okN n&&setOk l n v bf)=true):f0 l n v bf=some (.tup [.ful 0,.int .i64 (setsE l n v bf)],[(0,.rows .int (setsL l n v bf))]):=by
  simp only [setOk,Bool.and_eq_true,Bool.not_eq_true'] at h
  obtain ⟨h0,h1,h2,h3,h4,h5,h6⟩:=h
  have hn1:=nleI (okN_nds h0); have hn2:=nleI (okN_lks h0)
  have hv:=Nat.eq_of_beq_eq_true h4
  have hbf:=Nat.eq_of_beq_eq_true h5
  obtain ⟨g1,g2⟩:=rulesB_len h1
  have hw:∀ r∈l,r.rw.length≤20:=fun r hr=>(ruleB_len (g2 r hr)).1
  show sh0 l n v bf f1=_
  unfold sh0
  have e1:((Int.ofNat (List.length v)) != (Int.ofNat (List.length n.nds)))=false:=by rw [hv]; simp
  have e2:((Int.ofNat (List.length bf)) != (Int.ofNat (List.length n.lks)))=false:=by rw [hbf]; simp
  have e3:nle bf.length 90000=true:=nleT (by omega)
  rw [h1,h0,h2,e1,e2,e3,h6]
  show f1 l v bf n.nds n.lks=_
  show f3 100000 l v bf n.nds (Int.ofNat n.nds.length) 0 n.nds n.lks []=_
  refine (loop3 l v bf n h2 hn1 hv 100000 0 (by omega) (by omega)).trans ?_
  show f5 100000 l bf n.lks (Int.ofNat n.lks.length) 0 (List.zip (namesL n) v) []=_
  refine (loop5 l bf n h2 hn2 _ 100000 0 (by omega) (by omega)).trans ?_
  show f7 100000 l bf l (Int.ofNat l.length) 0 (List.zip (namesL n) v) (lnkM 0 n.lks)=_
  have hnl:(namesL n).length=v.length:=by rw [hv]; simp [namesL]
  have hlm:∀ r∈l,mfind kq_str (lnkM 0 n.lks) r.rl=some (linkZ n r.rl):=fun r hr=>by
    rw [mfind_lnk,(link_in (known_link h3 r hr)).2.2]; rfl
  refine (loop7 l bf (List.zip (namesL n) v) (lnkM 0 n.lks) g1 hw (fun r hr c hc=>by rw [mhas_zip _ _ _ hnl]; exact hasN_elem (known_elem h3 r hr c hc)) (fun r hr=>by unfold mhas; rw [hlm r hr]; rfl) 100000 0 (by omega) (by omega)).trans ?_
  show sh6 l bf (List.zip (namesL n) v) (lnkM 0 n.lks) (f13 100000)=_
  unfold sh6
  rw [e3]
  exact loop13 n l g1 hw _ _ (fun r hr=>by unfold mgetD; rw [hlm r hr]; rfl) (fun r hr=>⟨(link_in (known_link h3 r hr)).1,(link_in (known_link h3 r hr)).2.1⟩) 100000 0 bf [] (by omega) (by omega) hbf
theorem ok:CtxOk Tryz.prog X:=ctxOk tab (spC se1C.spOk (spC valid.spOk (spC uholds.spOk (spC nvalid.spOk (spC cloneI.spOk spN))))) dpN
theorem okM:MOk Tryz.prog X:=fun g sp h=>by cases h
theorem spec (l:List Rule) (n:Net) (v:List Int) (bf:List Int) (h:((okN n&&setOk l n v bf))=true):CallSpec Tryz.prog E 52 [(.lst .rule l),(.agg [(.lst .node n.nds),(.lst .link n.lks)]),(.lst .int v),(.lst .int bf)] (.tup [(.ful 0),(.int .i64 (setsE l n v bf))]) [(0,.rows .int (setsL l n v bf))] :=
  runFn_sound ok okM Tryz.call52 Tryz.func52 (by kernel_rfl) (by kernel_rfl) (by kernel_rfl) (by show 4≤160; decide) (by decide) (by rfl) ((run l n v bf).trans (f0_eq l n v bf h))
noncomputable def sp:Sp U El:=fun args k=>match args with
  | [.lst .rule l,.agg [.lst .node n_nds,.lst .link n_lks],.lst .int v,.lst .int bf]=>chk ((okN (⟨n_nds,n_lks⟩:Net)&&setOk l (⟨n_nds,n_lks⟩:Net) v bf)) (k (.tup [(.ful 0),(.int .i64 (setsE l (⟨n_nds,n_lks⟩:Net) v bf))]) [(0,.rows .int (setsL l (⟨n_nds,n_lks⟩:Net) v bf))])
  | _=>none
theorem spOk:SpOk Tryz.prog E 52 sp where
  det:=fun vs=>by
    unfold sp
    split
    · exact det_c _ _ _
    · exact ⟨none,fun _=>rfl⟩
  ok:=fun vs k r h=>by
    unfold sp at h
    split at h
    · obtain ⟨h1, h2⟩ := chk_some h
      exact ⟨_,_,spec _ ⟨_,_⟩ _ _ h1,h2⟩
    · cases h
end usettings
end Go.Proofs.YthdimnlkcgchoaaGreat
