/- Settings of the code. -/
import Derived.Test.YthdimnlkcgchoaaGreatVW
namespace Go.Proofs.YthdimnlkcgchoaaGreat
set_option linter.unusedSectionVars false
set_option linter.unusedSimpArgs false
set_option linter.unusedVariables false
set_option maxRecDepth 100000
noncomputable def dh (x:Int):Bool := !(ile 0 x&&ile x 1000)
noncomputable def gz (l:List Rule) (n:Net) (v bf:List Int):Bool :=
  a6 l&&(cz n&&(ca l n&&(Nat.beq v.length n.nds.length&&(Nat.beq bf.length n.lks.length && !(List.any bf dh)))))
noncomputable def di (n:Net) (am:List ((List UInt8)×Int)):List Rule→List Int→List (Int×Bool)→Option (List Int)
  | [],out,_=>some out
  | r :: l, out, st => bif !(List.any r.rw (bg am)) then (bif bx bN st (aF n r.rl) d_bool && (List.getD out (Int.toNat (aF n r.rl)) aL != r.rs) then none
      else di n am l (List.set out (Int.toNat (aF n r.rl)) r.rs) (eI bN st (aF n r.rl) true)) else di n am l out st
noncomputable def lB (l:List Rule) (n:Net) (v bf:List Int):Option (List Int):=di n (List.zip (aU n) v) l bf []
noncomputable def eS (l:List Rule) (n:Net) (v bf:List Int):List Int:=(lB l n v bf).getD []
noncomputable def gC (l:List Rule) (n:Net) (v bf:List Int):Int:=bif (lB l n v bf).isSome then 0 else 26
noncomputable def rp (o:Option (List Int)):R:=some (.tup [.ful 0,.int .i64 (bif o.isSome then 0 else 26)],[(0,.rows .int (o.getD []))])
noncomputable def gi:Nat→List Lnk→List ((List UInt8)×Int)
  | _,[]=>[]
  | i,x :: l=>(x.ln,(i:Int)) :: gi (i+1) l
theorem qa (x:Lnk):∀ (a:List Lnk) (i:Nat),gi i (a++[x])=gi i a++[(x.ln,((i+a.length:Nat):Int))]:=by
  intro a
  induction a with
  | nil=>intro i; rfl
  | cons y a ih =>
    intro i
    simp only [List.cons_append,gi,ih,List.length_cons]
    rw [show i+1+a.length=i+(a.length+1) by omega]
theorem lC (k:List UInt8):∀ (a:List Lnk) (i:Nat),dQ bq (gi i a) k=bif List.any a (bU k) then some (aN (bU k) i a) else none:=by
  intro a
  induction a with
  | nil=>intro i; rfl
  | cons x a ih =>
    intro i
    have e:bq k x.ln=bU k x:=by
      rw [rj]
      unfold bU
      rw [Bool.eq_iff_iff,beq_iff_eq,beq_iff_eq]
      exact ⟨Eq.symm,Eq.symm⟩
    simp only [gi,dQ,List.any_cons,aN,e,ih]
    cases bU k x<;>rfl
theorem rq {n:Net} (h:cz n=true) (i:Nat) (hi:i < n.lks.length):aF n n.lks[i].ln=(i:Int):=by
  simp only [cz,Bool.and_eq_true] at h
  have:=allI_iff.1 h.2.2.2 i _ (List.getElem?_eq_getElem hi)
  simp only [cV,Bool.not_eq_true',Bool.or_eq_false_iff,Nat.zero_add] at this
  simpa using this.2.1
theorem rt {n:Net} (h:cz n=true) (i:Nat) (hi:i < n.lks.length):List.any (n.lks.take i) (bU n.lks[i].ln)=false:=by
  cases he:List.any (n.lks.take i) (bU n.lks[i].ln) with
  | false=>rfl
  | true =>
    obtain ⟨x,hx,hs⟩:=List.any_eq_true.1 he
    obtain ⟨k,hk,ek⟩:=List.getElem_of_mem hx
    simp only [List.length_take] at hk
    rw [List.getElem_take] at ek
    have h1:=nz (bU n.lks[i].ln) n.lks 0 k (by omega) (by rw [ek]; exact hs)
    have h2:=rq h i hi
    unfold aF at h2
    omega
theorem ib {n:Net} {s:List UInt8} (h:ilt (aF n s) 0=false):0≤aF n s∧aF n s < (n.lks.length:Int)∧List.any n.lks (bU s)=true:=by
  have h1:=iw h
  have h2:ile 0 (aF n s)=true:=b7 (by omega)
  have h3:List.any n.lks (bU s)=true:=by unfold aF at h2; rwa [b8] at h2
  unfold aF at *
  rcases fP (bU s) n.lks 0 with h4 | ⟨h4,h5⟩
  · omega
  · exact ⟨by omega,by omega,h3⟩
theorem dM {l:List Rule} {n:Net} (hk:ca l n=true):∀ r∈l,ilt (aF n r.rl) 0=false:=fun r hr=>by
  have:=List.all_eq_true.1 hk r hr
  simp only [d7,Bool.and_eq_true,Bool.not_eq_true'] at this
  exact this.1
namespace cloneI
noncomputable def bd:Code:=(Tryz.f105.body).getD .skip
noncomputable def X:Ctx U El:=⟨E,tds,zeros,eqs,aC [],100000,8,ap [],fun _=>none⟩
noncomputable def nmR:Norm U:=⟨[(2,.int)],[2],[2],[],[],[],[]⟩
noncomputable def RR:ab U El:=fun st=>aE nmR st (aD [2] [2])
noncomputable def fr0 (l:List Int):St U El:=⟨[(0,(.lst .int l))],[]⟩
noncomputable def sh0 (l:List Int):R :=
  aa (nlt 0 (List.length l)) (chk (nle ((List.length ([]:List Int)+List.length l) * 8) 140737488355328&&nle (List.length ([]:List Int)+List.length l) 9223372036854775807) (some ((.ful 0),[(0,.rows .int (([]:List Int)++l))]))) (amb (some ((.ful 0),[(0,.rows .int ([]:List Int))])) (chk (nle ((List.length ([]:List Int)+List.length l) * 8) 140737488355328&&nle (List.length ([]:List Int)+List.length l) 9223372036854775807) (some ((.ful 0),[(0,.rows .int (([]:List Int)++l))]))))
theorem P0 (l):ac X (cdp [] bd) .d (fr0 l) RR (fun _ _=>none) RR=sh0 l:=by kernel_rfl
noncomputable def f0 (l:List Int):R:=sh0 l
theorem T0 (l):ac X bd .d (fr0 l) RR (fun _ _=>none) RR=f0 l:=by
  refine (P0 l).trans ?_
  show _=sh0 l
  rfl
theorem run (l):aJ X bd .d nmR [2] [2] [(.lst .int l)]=f0 l:=T0 l
theorem f0_eq (l:List Int) (h:(nle (List.length l) 90000)=true):f0 l=ls l:=by
  have hl:=bQ h
  show sh0 l=_
  unfold sh0
  have e1:nle ((List.length ([]:List Int)+List.length l) * 8) 140737488355328=true:=bE (by simp; omega)
  have e2:nle (List.length ([]:List Int)+List.length l) 9223372036854775807=true:=bE (by simp; omega)
  rw [e1,e2]
  cases l with
  | nil=>exact mi _
  | cons x l=>rfl
theorem ok:CtxOk Tryz.prog X:=aI tab spN dpN
theorem okM:MOk Tryz.prog X:=fun g sp h=>by cases h
theorem spec (l:List Int) (h:(nle (List.length l) 90000)=true):aj Tryz.prog E 105 [(.lst .int l)] (.ful 0) [(0,.rows .int (l))] :=
  ae ok okM Tryz.call105 Tryz.func105 (by kernel_rfl) (by kernel_rfl) (by kernel_rfl) (by show 1≤8; decide) (by decide) (by rfl) ((run l).trans (f0_eq l h))
noncomputable def sp:Sp U El:=fun args k=>match args with
  | [.lst .int l]=>chk (nle (List.length l) 90000) (k (.ful 0) [(0,.rows .int (l))])
  | _=>none
theorem spOk:SpOk Tryz.prog E 105 sp where
  det:=fun vs=>by
    unfold sp
    split
    · exact aY _ _ _
    · exact ⟨none,fun _=>rfl⟩
  ok:=fun vs k r h=>by
    unfold sp at h
    split at h
    · obtain ⟨h1, h2⟩ := af h
      exact ⟨_,_,spec _ h1,h2⟩
    · cases h
end cloneI
namespace se1
noncomputable def bd:Code:=(Tryz.f103.body).getD .skip
noncomputable def X:Ctx U El:=⟨E,tds,zeros,eqs,aC [(104,rwithin.sp)],100000,6,ap [],fun _=>none⟩
noncomputable def nmR:Norm U:=⟨[],[2],[],[],[],[],[]⟩
noncomputable def RR:ab U El:=fun st=>aE nmR st (aD [2] [])
noncomputable def fr0 (x:Int):St U El:=⟨[(0,(.int .i64 x))],[]⟩
noncomputable def sh0 (x:Int):R :=
  some ((.bool (!((ile (0:Int) x&&ile x (1000:Int))))),[])
theorem P0 (x):ac X (cdp [] bd) .d (fr0 x) RR (fun _ _=>none) RR=sh0 x:=by kernel_rfl
noncomputable def f0 (x:Int):R:=sh0 x
theorem T0 (x):ac X bd .d (fr0 x) RR (fun _ _=>none) RR=f0 x:=by
  refine (P0 x).trans ?_
  show _=sh0 x
  rfl
theorem run (x):aJ X bd .d nmR [2] [] [(.int .i64 x)]=f0 x:=T0 x
theorem f0_eq (x:Int):f0 x=aH (dh x):=rfl
theorem ok:CtxOk Tryz.prog X:=aI tab (spC rwithin.spOk spN) dpN
theorem okM:MOk Tryz.prog X:=fun g sp h=>by cases h
theorem spec (x:Int):aj Tryz.prog E 103 [(.int .i64 x)] (.bool (dh x)) [] :=
  ae ok okM Tryz.call103 Tryz.func103 (by kernel_rfl) (by kernel_rfl) (by kernel_rfl) (by show 1≤6; decide) (by decide) (by rfl) ((run x).trans (f0_eq x))
noncomputable def sp:Sp U El:=fun args k=>match args with
  | [.int .i64 x]=>k (.bool (dh x)) []
  | _=>none
theorem spOk:SpOk Tryz.prog E 103 sp where
  det:=fun vs=>by
    unfold sp
    split
    · exact ⟨some (_,_),fun _=>rfl⟩
    · exact ⟨none,fun _=>rfl⟩
  ok:=fun vs k r h=>by
    unfold sp at h
    split at h
    · exact ⟨_,_,spec _,h⟩
    · cases h
end se1
namespace se1X
noncomputable def bd:Code:=(Tryz.f80.body).getD .skip
noncomputable def X:Ctx U El:=⟨E,tds,zeros,eqs,aC [(103,se1.sp)],100000,19,ap [],fun _=>none⟩
noncomputable def nmR:Norm U:=⟨[],[4],[],[],[],[],[]⟩
noncomputable def RR:ab U El:=fun st=>aE nmR st (aD [4] [])
noncomputable def nm1:Norm U:=⟨[],[],[],[],[],[],[]⟩
noncomputable def nm2:Norm U:=⟨[],[0,1,7,8],[],[],[],[],[]⟩
abbrev Y1:=R
abbrev Y2:=(List Int)→Int→Int→R
noncomputable def fr0 (l:List Int):St U El:=⟨[(0,(.lst .int l)),(1,(.fn 103 [] []))],[]⟩
noncomputable def fr1:St U El:=⟨[],[]⟩
noncomputable def fr2 (s0:List Int) (x7:Int) (x8:Int):St U El:=⟨[(0,(.lst .int s0)),(1,(.fn 103 [] [])),(7,(.int .i64 x7)),(8,(.int .i64 x8))],[]⟩
noncomputable def sh0 (l:List Int) (k2:Y2):R :=
  k2 l (Int.ofNat (List.length l)) (0:Int)
noncomputable def sh1:R :=
  some ((.int .i64 (-1:Int)),[])
noncomputable def sh2 (s0:List Int) (x7:Int) (x8:Int) (k1:Y1) (k2:Y2):R :=
  aa (ilt x8 x7) (chk (inb x8 (List.length s0)) (aa (dh (List.getD s0 (Int.toNat x8) aL)) (some ((.int .i64 x8),[])) (k2 s0 x7 (IntKind.wrap .i64 (x8+(1:Int)))))) (k1)
noncomputable def it2 (Kb1:ab U El) (n:Nat):ab U El:=bw nm2 (fun st' K'=>ac X (cdp [1,0,1,0,0] bd) .d st' K' (aq 0 (ah nm1 Kb1) (fun _ _=>none)) RR) n
noncomputable def ct1:ab U El:=fun st=>ac X (cdp [1,1] bd) .d st RR (fun _ _=>none) RR
theorem P0 (l):ac X (cdp [] bd) (.seq none .d (.seq (some nm1) (.seq none .d (.block (.loop nm2 .d))) .d)) (fr0 l) RR (fun _ _=>none) RR=sh0 l (fun y0 y1 y2=>(hid (it2 (hid ct1) 100000)) (fr2 y0 y1 y2)):=by kernel_rfl
theorem P1:ct1 (fr1)=sh1:=by kernel_rfl
theorem P2 (s0 x7 x8) (Kb1 Kb2:ab U El):ac X (cdp [1,0,1,0,0] bd) .d (fr2 s0 x7 x8) (ah nm2 Kb2) (aq 0 (ah nm1 Kb1) (fun _ _=>none)) RR=sh2 s0 x7 x8 (Kb1 (fr1)) (fun y0 y1 y2=>Kb2 (fr2 y0 y1 y2)):=by kernel_rfl
noncomputable def f1:R:=sh1
noncomputable def f2:Nat→Y2
  | 0=>fun _ _ _=>none
  | n+1=>fun s0 x7 x8=>sh2 s0 x7 x8 f1 (f2 n)
noncomputable def f0 (l:List Int):R:=sh0 l (f2 100000)
theorem T1:(hid ct1) (fr1)=f1:=by
  refine (congrFun (ai _) _).trans <| (P1).trans ?_
  show _=sh1
  rfl
theorem T2:∀ (n:Nat),∀ s0 x7 x8,it2 (hid ct1) n (fr2 s0 x7 x8)=f2 n s0 x7 x8:=by
  intro n
  induction n with
  | zero=>intros; rfl
  | succ n ih =>
    intro s0 x7 x8
    refine (P2 s0 x7 x8 (hid ct1) (it2 (hid ct1) n)).trans ?_
    show _=sh2 s0 x7 x8 f1 (f2 n)
    simp only [T1,ih]
theorem H2 (s0 x7 x8):hid (it2 (hid ct1) 100000) (fr2 s0 x7 x8)=f2 100000 s0 x7 x8:=(congrFun (ai _) _).trans (T2 100000 s0 x7 x8)
theorem T0 (l):ac X bd (.seq none .d (.seq (some nm1) (.seq none .d (.block (.loop nm2 .d))) .d)) (fr0 l) RR (fun _ _=>none) RR=f0 l:=by
  refine (P0 l).trans ?_
  show _=sh0 l (f2 100000)
  simp only [H2]
theorem run (l):aJ X bd (.seq none .d (.seq (some nm1) (.seq none .d (.block (.loop nm2 .d))) .d)) nmR [4] [] [(.lst .int l),(.fn 103 [] [])]=f0 l:=T0 l
theorem f0_eq (l:List Int) (h:(nle (List.length l) 90000)=true):f0 l=bH (aN dh 0 l):=by
  have hl:=bQ h
  refine (bu l (by omega) (fun n_ (_:Unit) i_=>f2 n_ l (Int.ofNat l.length) i_) _ (fun _=>bH (-1)) (fun n_ u_ i_ hi_ => ?_) (fun n_ u_ => ?_) 100000 0 () (by omega) (by omega)).trans (bM dh bH l 0)
  · show sh2 l (Int.ofNat l.length) i_ f1 (f2 n_) = _
    unfold sh2
    rw [aX (by simp; omega),aW hi_,ak,ar hi_]
    rfl
  · show sh2 l (Int.ofNat l.length) (l.length : Int) f1 (f2 n_) = _
    unfold sh2
    rw [aR (by simp)]
    rfl
theorem ok:CtxOk Tryz.prog X:=aI tab (spC se1.spOk spN) dpN
theorem okM:MOk Tryz.prog X:=fun g sp h=>by cases h
theorem spec (l:List Int) (h:(nle (List.length l) 90000)=true):aj Tryz.prog E 80 [(.lst .int l),(.fn 103 [] [])] (.int .i64 (aN dh 0 l)) [] :=
  ae ok okM Tryz.call80 Tryz.func80 (by kernel_rfl) (by kernel_rfl) (by kernel_rfl) (by show 2≤19; decide) (by decide) (by rfl) ((run l).trans (f0_eq l h))
noncomputable def sp:Sp U El:=fun args k=>match args with
  | [.lst .int l,.fn 103 [] []]=>chk (nle (List.length l) 90000) (k (.int .i64 (aN dh 0 l)) [])
  | _=>none
theorem spOk:SpOk Tryz.prog E 80 sp where
  det:=fun vs=>by
    unfold sp
    split
    · exact aY _ _ _
    · exact ⟨none,fun _=>rfl⟩
  ok:=fun vs k r h=>by
    unfold sp at h
    split at h
    · obtain ⟨h1, h2⟩ := af h
      exact ⟨_,_,spec _ h1,h2⟩
    · cases h
end se1X
namespace se1C
noncomputable def bd:Code:=(Tryz.f35.body).getD .skip
noncomputable def X:Ctx U El:=⟨E,tds,zeros,eqs,aC [(80,se1X.sp)],100000,9,ap [],fun _=>none⟩
noncomputable def nmR:Norm U:=⟨[],[4],[],[],[],[],[]⟩
noncomputable def RR:ab U El:=fun st=>aE nmR st (aD [4] [])
noncomputable def fr0 (l:List Int):St U El:=⟨[(0,(.lst .int l)),(1,(.fn 103 [] []))],[]⟩
noncomputable def sh0 (l:List Int):R :=
  chk (nle (List.length l) 90000) (some ((.bool (ile (0:Int) (aN dh 0 l))),[]))
theorem P0 (l):ac X (cdp [] bd) .d (fr0 l) RR (fun _ _=>none) RR=sh0 l:=by kernel_rfl
noncomputable def f0 (l:List Int):R:=sh0 l
theorem T0 (l):ac X bd .d (fr0 l) RR (fun _ _=>none) RR=f0 l:=by
  refine (P0 l).trans ?_
  show _=sh0 l
  rfl
theorem run (l):aJ X bd .d nmR [4] [] [(.lst .int l),(.fn 103 [] [])]=f0 l:=T0 l
theorem f0_eq (l:List Int) (h:(nle (List.length l) 90000)=true):f0 l=aH (List.any l dh):=by
  show chk _ (aH _)=_
  rw [h,bL,b8]
theorem ok:CtxOk Tryz.prog X:=aI tab (spC se1X.spOk spN) dpN
theorem okM:MOk Tryz.prog X:=fun g sp h=>by cases h
theorem spec (l:List Int) (h:(nle (List.length l) 90000)=true):aj Tryz.prog E 35 [(.lst .int l),(.fn 103 [] [])] (.bool (List.any l dh)) [] :=
  ae ok okM Tryz.call35 Tryz.func35 (by kernel_rfl) (by kernel_rfl) (by kernel_rfl) (by show 2≤9; decide) (by decide) (by rfl) ((run l).trans (f0_eq l h))
noncomputable def sp:Sp U El:=fun args k=>match args with
  | [.lst .int l,.fn 103 [] []]=>chk (nle (List.length l) 90000) (k (.bool (List.any l dh)) [])
  | _=>none
theorem spOk:SpOk Tryz.prog E 35 sp where
  det:=fun vs=>by
    unfold sp
    split
    · exact aY _ _ _
    · exact ⟨none,fun _=>rfl⟩
  ok:=fun vs k r h=>by
    unfold sp at h
    split at h
    · obtain ⟨h1, h2⟩ := af h
      exact ⟨_,_,spec _ h1,h2⟩
    · cases h
end se1C
namespace usettings
noncomputable def bd:Code:=(Tryz.f52.body).getD .skip
noncomputable def X:Ctx U El:=⟨E,tds,zeros,eqs,aC [(35,se1C.sp),(85,valid.sp),(87,uholds.sp),(102,nvalid.sp),(105,cloneI.sp)],100000,160,ap [],fun _=>none⟩
noncomputable def nmR:Norm U:=⟨[(8,.int)],[8,9],[8],[],[],[],[]⟩
noncomputable def RR:ab U El:=fun st=>aE nmR st (aD [8,9] [8])
noncomputable def nm1:Norm U:=⟨[],[0,2,3,5],[5],[],[],[],[(5,0,.node),(5,1,.link)]⟩
noncomputable def nm2:Norm U:=⟨[],[0,3,5,10],[5,56],[],[],[],[(5,0,.node),(5,1,.link)]⟩
noncomputable def nm3:Norm U:=⟨[],[0,2,3,5,10,58,59,60],[5,56],[],[],[],[(5,0,.node),(5,1,.link)]⟩
noncomputable def nm4:Norm U:=⟨[],[0,3,10,13],[56,73],[],[],[],[]⟩
noncomputable def nm5:Norm U:=⟨[],[0,3,10,13,75,76,77],[56,73],[],[],[],[]⟩
noncomputable def nm6:Norm U:=⟨[],[0,3,10,13],[56,73],[],[],[],[]⟩
noncomputable def nm7:Norm U:=⟨[],[0,3,10,13,87,88,89],[56,73],[],[],[],[]⟩
noncomputable def nm8:Norm U:=⟨[],[0,3,10,13,87,88,89],[56,73],[],[],[],[]⟩
noncomputable def nm9:Norm U:=⟨[],[0,3,10,13,19,87,88,89],[56,73],[],[],[],[]⟩
noncomputable def kp:Norm U:=⟨[],[0,3,10,13,19,87,88,89,101,102,103],[56,73],[],[],[],[]⟩
noncomputable def kN:Norm U:=⟨[],[0,3,10,13,19,87,88,89,101,102,103],[56,73],[],[],[],[]⟩
noncomputable def kq:Norm U:=⟨[(24,.int)],[24],[24],[],[],[],[]⟩
noncomputable def kO:Norm U:=⟨[(24,.int)],[10,13,24,25,125,126,127],[24,56,73,124],[],[],[],[]⟩
noncomputable def kr:Norm U:=⟨[(24,.int)],[10,13,24,25,125,126,127],[24,56,73,124],[],[],[],[]⟩
noncomputable def mh:Norm U:=⟨[(24,.int)],[10,13,24,25,27,28,125,126,127],[24,27,56,73,124],[],[],[],[(27,1,.cnd)]⟩
abbrev Y1:=(List Rule)→(List Int)→(List Int)→(List Node)→(List Lnk)→R
abbrev Y2:=(List Rule)→(List Int)→(List Node)→(List Lnk)→(List ((List UInt8)×Int))→R
abbrev Y3:=(List Rule)→(List Int)→(List Int)→(List Node)→Int→Int→(List Node)→(List Lnk)→(List ((List UInt8)×Int))→R
abbrev Y4:=(List Rule)→(List Int)→(List ((List UInt8)×Int))→(List ((List UInt8)×Int))→R
abbrev Y5:=(List Rule)→(List Int)→(List Lnk)→Int→Int→(List ((List UInt8)×Int))→(List ((List UInt8)×Int))→R
abbrev Y6:=(List Rule)→(List Int)→(List ((List UInt8)×Int))→(List ((List UInt8)×Int))→R
abbrev Y7:=(List Rule)→(List Int)→(List Rule)→Int→Int→(List ((List UInt8)×Int))→(List ((List UInt8)×Int))→R
abbrev Y8:=(List Rule)→(List Int)→(List Rule)→Int→Int→(List ((List UInt8)×Int))→(List ((List UInt8)×Int))→R
abbrev Y9:=(List Rule)→(List Int)→Bool→(List Rule)→Int→Int→(List ((List UInt8)×Int))→(List ((List UInt8)×Int))→R
abbrev Y10:=(List Rule)→(List Int)→Bool→(List Rule)→Int→Int→(List Cnd)→Int→Int→(List ((List UInt8)×Int))→(List ((List UInt8)×Int))→R
abbrev Y11:=(List Rule)→(List Int)→Bool→(List Rule)→Int→Int→(List Cnd)→Int→Int→(List ((List UInt8)×Int))→(List ((List UInt8)×Int))→R
abbrev Y12:=(List Int)→R
abbrev Y13:=(List Int)→(List Rule)→Int→Int→(List ((List UInt8)×Int))→(List ((List UInt8)×Int))→(List (Int×Bool))→R
abbrev Y14:=(List Int)→(List Rule)→Int→Int→(List ((List UInt8)×Int))→(List ((List UInt8)×Int))→(List (Int×Bool))→R
abbrev Y15:=(List Int)→Int→(List Rule)→Int→Int→(List UInt8)→(List Cnd)→(List UInt8)→Int→(List ((List UInt8)×Int))→(List ((List UInt8)×Int))→(List (Int×Bool))→R
noncomputable def fr0 (l:List Rule) (n:Net) (v:List Int) (bf:List Int):St U El:=⟨[(0,(.lst .rule l)),(1,(.agg [(.lst .node n.nds),(.lst .link n.lks)])),(2,(.lst .int v)),(3,(.lst .int bf))],[]⟩
noncomputable def fr1 (l0:List Rule) (eA:List Int) (aA:List Int) (nA:List Node) (oA:List Lnk):St U El:=⟨[(0,(.lst .rule l0)),(2,(.lst .int eA)),(3,(.lst .int aA)),(5,(.ptr 5 0))],[(5,(.box 0 [(.lst .node nA),(.lst .link oA)]))]⟩
noncomputable def fr2 (l0:List Rule) (aA:List Int) (nA:List Node) (oA:List Lnk) (bA:List ((List UInt8)×Int)):St U El:=⟨[(0,(.lst .rule l0)),(3,(.lst .int aA)),(5,(.ptr 5 0)),(10,(.mp 56))],[(5,(.box 0 [(.lst .node nA),(.lst .link oA)])),(56,(.map .str .int bA))]⟩
noncomputable def fr3 (l0:List Rule) (eA:List Int) (aA:List Int) (yA:List Node) (aB:Int) (wA:Int) (nA:List Node) (oA:List Lnk) (bA:List ((List UInt8)×Int)):St U El:=⟨[(0,(.lst .rule l0)),(2,(.lst .int eA)),(3,(.lst .int aA)),(5,(.ptr 5 0)),(10,(.mp 56)),(58,(.lst .node yA)),(59,(.int .i64 aB)),(60,(.int .i64 wA))],[(5,(.box 0 [(.lst .node nA),(.lst .link oA)])),(56,(.map .str .int bA))]⟩
noncomputable def fr4 (l0:List Rule) (aA:List Int) (bA:List ((List UInt8)×Int)) (dA:List ((List UInt8)×Int)):St U El:=⟨[(0,(.lst .rule l0)),(3,(.lst .int aA)),(10,(.mp 56)),(13,(.mp 73))],[(56,(.map .str .int bA)),(73,(.map .str .int dA))]⟩
noncomputable def fr5 (l0:List Rule) (aA:List Int) (zA:List Lnk) (bB:Int) (xA:Int) (bA:List ((List UInt8)×Int)) (dA:List ((List UInt8)×Int)):St U El:=⟨[(0,(.lst .rule l0)),(3,(.lst .int aA)),(10,(.mp 56)),(13,(.mp 73)),(75,(.lst .link zA)),(76,(.int .i64 bB)),(77,(.int .i64 xA))],[(56,(.map .str .int bA)),(73,(.map .str .int dA))]⟩
noncomputable def fr6 (l0:List Rule) (aA:List Int) (bA:List ((List UInt8)×Int)) (dA:List ((List UInt8)×Int)):St U El:=⟨[(0,(.lst .rule l0)),(3,(.lst .int aA)),(10,(.mp 56)),(13,(.mp 73))],[(56,(.map .str .int bA)),(73,(.map .str .int dA))]⟩
noncomputable def fr7 (l0:List Rule) (aA:List Int) (kA:List Rule) (mA:Int) (jA:Int) (bA:List ((List UInt8)×Int)) (dA:List ((List UInt8)×Int)):St U El:=⟨[(0,(.lst .rule l0)),(3,(.lst .int aA)),(10,(.mp 56)),(13,(.mp 73)),(87,(.lst .rule kA)),(88,(.int .i64 mA)),(89,(.int .i64 jA))],[(56,(.map .str .int bA)),(73,(.map .str .int dA))]⟩
noncomputable def fr8 (l0:List Rule) (aA:List Int) (kA:List Rule) (mA:Int) (jA:Int) (bA:List ((List UInt8)×Int)) (dA:List ((List UInt8)×Int)):St U El:=⟨[(0,(.lst .rule l0)),(3,(.lst .int aA)),(10,(.mp 56)),(13,(.mp 73)),(87,(.lst .rule kA)),(88,(.int .i64 mA)),(89,(.int .i64 jA))],[(56,(.map .str .int bA)),(73,(.map .str .int dA))]⟩
noncomputable def fr9 (l0:List Rule) (aA:List Int) (lA:Bool) (kA:List Rule) (mA:Int) (jA:Int) (bA:List ((List UInt8)×Int)) (dA:List ((List UInt8)×Int)):St U El:=⟨[(0,(.lst .rule l0)),(3,(.lst .int aA)),(10,(.mp 56)),(13,(.mp 73)),(19,(.bool lA)),(87,(.lst .rule kA)),(88,(.int .i64 mA)),(89,(.int .i64 jA))],[(56,(.map .str .int bA)),(73,(.map .str .int dA))]⟩
noncomputable def qb (l0:List Rule) (aA:List Int) (lA:Bool) (kA:List Rule) (mA:Int) (jA:Int) (qA:List Cnd) (rA:Int) (pA:Int) (bA:List ((List UInt8)×Int)) (dA:List ((List UInt8)×Int)):St U El:=⟨[(0,(.lst .rule l0)),(3,(.lst .int aA)),(10,(.mp 56)),(13,(.mp 73)),(19,(.bool lA)),(87,(.lst .rule kA)),(88,(.int .i64 mA)),(89,(.int .i64 jA)),(101,(.lst .cnd qA)),(102,(.int .i64 rA)),(103,(.int .i64 pA))],[(56,(.map .str .int bA)),(73,(.map .str .int dA))]⟩
noncomputable def ss (l0:List Rule) (aA:List Int) (lA:Bool) (kA:List Rule) (mA:Int) (jA:Int) (qA:List Cnd) (rA:Int) (pA:Int) (bA:List ((List UInt8)×Int)) (dA:List ((List UInt8)×Int)):St U El:=⟨[(0,(.lst .rule l0)),(3,(.lst .int aA)),(10,(.mp 56)),(13,(.mp 73)),(19,(.bool lA)),(87,(.lst .rule kA)),(88,(.int .i64 mA)),(89,(.int .i64 jA)),(101,(.lst .cnd qA)),(102,(.int .i64 rA)),(103,(.int .i64 pA))],[(56,(.map .str .int bA)),(73,(.map .str .int dA))]⟩
noncomputable def su (cA:List Int):St U El:=⟨[(24,(.ful 24))],[(24,(.rows .int cA))]⟩
noncomputable def oE (cA:List Int) (gA:List Rule) (iA:Int) (fA:Int) (bA:List ((List UInt8)×Int)) (dA:List ((List UInt8)×Int)) (hA:List (Int×Bool)):St U El:=⟨[(10,(.mp 56)),(13,(.mp 73)),(24,(.ful 24)),(25,(.mp 124)),(125,(.lst .rule gA)),(126,(.int .i64 iA)),(127,(.int .i64 fA))],[(24,(.rows .int cA)),(56,(.map .str .int bA)),(73,(.map .str .int dA)),(124,(.map .int .bool hA))]⟩
noncomputable def r7 (cA:List Int) (gA:List Rule) (iA:Int) (fA:Int) (bA:List ((List UInt8)×Int)) (dA:List ((List UInt8)×Int)) (hA:List (Int×Bool)):St U El:=⟨[(10,(.mp 56)),(13,(.mp 73)),(24,(.ful 24)),(25,(.mp 124)),(125,(.lst .rule gA)),(126,(.int .i64 iA)),(127,(.int .i64 fA))],[(24,(.rows .int cA)),(56,(.map .str .int bA)),(73,(.map .str .int dA)),(124,(.map .int .bool hA))]⟩
noncomputable def sw (cA:List Int) (cB:Int) (gA:List Rule) (iA:Int) (fA:Int) (tA:List UInt8) (uA:List Cnd) (vA:List UInt8) (sA:Int) (bA:List ((List UInt8)×Int)) (dA:List ((List UInt8)×Int)) (hA:List (Int×Bool)):St U El:=⟨[(10,(.mp 56)),(13,(.mp 73)),(24,(.ful 24)),(25,(.mp 124)),(27,(.ptr 27 0)),(28,(.int .i64 cB)),(125,(.lst .rule gA)),(126,(.int .i64 iA)),(127,(.int .i64 fA))],[(24,(.rows .int cA)),(27,(.box 0 [(.str tA),(.lst .cnd uA),(.str vA),(.int .i64 sA)])),(56,(.map .str .int bA)),(73,(.map .str .int dA)),(124,(.map .int .bool hA))]⟩
noncomputable def sh0 (l:List Rule) (n:Net) (v:List Int) (bf:List Int) (k1:Y1):R :=
  aa (!(a6 l)) (some ((.tup [(.ful 0),(.int .i64 (1:Int))]),[(0,.rows .int ([]:List Int))])) (chk (okN n) (aa (!(cz n)) (some ((.tup [(.ful 0),(.int .i64 (1:Int))]),[(0,.rows .int ([]:List Int))])) (aa ((Int.ofNat (List.length v)) != (Int.ofNat (List.length n.nds))) (some ((.tup [(.ful 0),(.int .i64 (3:Int))]),[(0,.rows .int ([]:List Int))])) (aa ((Int.ofNat (List.length bf)) != (Int.ofNat (List.length n.lks))) (some ((.tup [(.ful 0),(.int .i64 (3:Int))]),[(0,.rows .int ([]:List Int))])) (chk (nle (List.length bf) 90000) (aa (List.any bf dh) (some ((.tup [(.ful 0),(.int .i64 (2:Int))]),[(0,.rows .int ([]:List Int))])) (k1 l v bf n.nds n.lks)))))))
noncomputable def sh1 (l0:List Rule) (eA:List Int) (aA:List Int) (nA:List Node) (oA:List Lnk) (k3:Y3):R :=
  k3 l0 eA aA nA (Int.ofNat (List.length nA)) (0:Int) nA oA ([]:List ((List UInt8)×Int))
noncomputable def sh2 (l0:List Rule) (aA:List Int) (nA:List Node) (oA:List Lnk) (bA:List ((List UInt8)×Int)) (k5:Y5):R :=
  k5 l0 aA oA (Int.ofNat (List.length oA)) (0:Int) bA ([]:List ((List UInt8)×Int))
noncomputable def sh3 (l0:List Rule) (eA:List Int) (aA:List Int) (yA:List Node) (aB:Int) (wA:Int) (nA:List Node) (oA:List Lnk) (bA:List ((List UInt8)×Int)) (k2:Y2) (k3:Y3):R :=
  aa (ilt wA aB) (chk (inb wA (List.length yA)) (chk (inb wA (List.length eA)) (k3 l0 eA aA yA aB (IntKind.wrap .i64 (wA+(1:Int))) nA oA (eI bq bA ((List.getD yA (Int.toNat wA) aO).nn) (List.getD eA (Int.toNat wA) aL))))) (k2 l0 aA nA oA bA)
noncomputable def sh4 (l0:List Rule) (aA:List Int) (bA:List ((List UInt8)×Int)) (dA:List ((List UInt8)×Int)) (k7:Y7):R :=
  k7 l0 aA l0 (Int.ofNat (List.length l0)) (0:Int) bA dA
noncomputable def sh5 (l0:List Rule) (aA:List Int) (zA:List Lnk) (bB:Int) (xA:Int) (bA:List ((List UInt8)×Int)) (dA:List ((List UInt8)×Int)) (k4:Y4) (k5:Y5):R :=
  aa (ilt xA bB) (chk (inb xA (List.length zA)) (k5 l0 aA zA bB (IntKind.wrap .i64 (xA+(1:Int))) bA (eI bq dA ((List.getD zA (Int.toNat xA) bJ).ln) xA))) (k4 l0 aA bA dA)
noncomputable def sh6 (l0:List Rule) (aA:List Int) (bA:List ((List UInt8)×Int)) (dA:List ((List UInt8)×Int)) (dB:Y13):R :=
  chk (nle (List.length aA) 90000) (dB (aA) l0 (Int.ofNat (List.length l0)) (0:Int) bA dA ([]:List (Int×Bool)))
noncomputable def sh7 (l0:List Rule) (aA:List Int) (kA:List Rule) (mA:Int) (jA:Int) (bA:List ((List UInt8)×Int)) (dA:List ((List UInt8)×Int)) (k6:Y6) (eB:Y10):R :=
  aa (ilt jA mA) (chk (inb jA (List.length kA)) (eB l0 aA (dY bq dA ((List.getD kA (Int.toNat jA) az).rl)) kA mA jA ((List.getD kA (Int.toNat jA) az).rw) (Int.ofNat (List.length ((List.getD kA (Int.toNat jA) az).rw))) (0:Int) bA dA)) (k6 l0 aA bA dA)
noncomputable def sh8 (l0:List Rule) (aA:List Int) (kA:List Rule) (mA:Int) (jA:Int) (bA:List ((List UInt8)×Int)) (dA:List ((List UInt8)×Int)) (k7:Y7):R :=
  k7 l0 aA kA mA (IntKind.wrap .i64 (jA+(1:Int))) bA dA
noncomputable def sh9 (l0:List Rule) (aA:List Int) (lA:Bool) (kA:List Rule) (mA:Int) (jA:Int) (bA:List ((List UInt8)×Int)) (dA:List ((List UInt8)×Int)) (k8:Y8):R :=
  aa (!lA) (some ((.tup [(.ful 0),(.int .i64 (9:Int))]),[(0,.rows .int ([]:List Int))])) (k8 l0 aA kA mA jA bA dA)
noncomputable def ru (l0:List Rule) (aA:List Int) (lA:Bool) (kA:List Rule) (mA:Int) (jA:Int) (qA:List Cnd) (rA:Int) (pA:Int) (bA:List ((List UInt8)×Int)) (dA:List ((List UInt8)×Int)) (k9:Y9) (k11:Y11):R :=
  aa (ilt pA rA) (chk (inb pA (List.length qA)) (aa lA (k11 l0 aA (dY bq bA ((List.getD qA (Int.toNat pA) cI).cn)) kA mA jA qA rA pA bA dA) (k11 l0 aA false kA mA jA qA rA pA bA dA))) (k9 l0 aA lA kA mA jA bA dA)
noncomputable def sx (l0:List Rule) (aA:List Int) (lA:Bool) (kA:List Rule) (mA:Int) (jA:Int) (qA:List Cnd) (rA:Int) (pA:Int) (bA:List ((List UInt8)×Int)) (dA:List ((List UInt8)×Int)) (eB:Y10):R :=
  eB l0 aA lA kA mA jA qA rA (IntKind.wrap .i64 (pA+(1:Int))) bA dA
noncomputable def sy (cA:List Int):R :=
  some ((.tup [(.ful 0),(.int .i64 (0:Int))]),[(0,.rows .int cA)])
noncomputable def rv (cA:List Int) (gA:List Rule) (iA:Int) (fA:Int) (bA:List ((List UInt8)×Int)) (dA:List ((List UInt8)×Int)) (hA:List (Int×Bool)) (k12:Y12) (k14:Y14) (k15:Y15):R :=
  aa (ilt fA iA) (chk (inb fA (List.length gA)) (chk (nle (List.length (Rule.rw (List.getD gA (Int.toNat fA) az))) 90000) (aa (!(!(List.any (Rule.rw (List.getD gA (Int.toNat fA) az)) (bg bA)))) (k14 cA gA iA fA bA dA hA) (aa (bx bN hA (bx bq dA ((List.getD gA (Int.toNat fA) az).rl) aL) d_bool) (chk (inb (bx bq dA ((List.getD gA (Int.toNat fA) az).rl) aL) (List.length cA)) (chk (nlt (Int.toNat (bx bq dA ((List.getD gA (Int.toNat fA) az).rl) aL)) (List.length cA)) (aa ((List.getD cA (Int.toNat (bx bq dA ((List.getD gA (Int.toNat fA) az).rl) aL)) aL) != (List.getD gA (Int.toNat fA) az).rs) (some ((.tup [(.ful 0),(.int .i64 (26:Int))]),[(0,.rows .int ([]:List Int))])) (k15 cA (bx bq dA ((List.getD gA (Int.toNat fA) az).rl) aL) gA iA fA ((List.getD gA (Int.toNat fA) az).rn) ((List.getD gA (Int.toNat fA) az).rw) ((List.getD gA (Int.toNat fA) az).rl) ((List.getD gA (Int.toNat fA) az).rs) bA dA hA)))) (k15 cA (bx bq dA ((List.getD gA (Int.toNat fA) az).rl) aL) gA iA fA ((List.getD gA (Int.toNat fA) az).rn) ((List.getD gA (Int.toNat fA) az).rw) ((List.getD gA (Int.toNat fA) az).rl) ((List.getD gA (Int.toNat fA) az).rs) bA dA hA))))) (k12 cA)
noncomputable def sB (cA:List Int) (gA:List Rule) (iA:Int) (fA:Int) (bA:List ((List UInt8)×Int)) (dA:List ((List UInt8)×Int)) (hA:List (Int×Bool)) (dB:Y13):R :=
  dB cA gA iA (IntKind.wrap .i64 (fA+(1:Int))) bA dA hA
noncomputable def rx (cA:List Int) (cB:Int) (gA:List Rule) (iA:Int) (fA:Int) (tA:List UInt8) (uA:List Cnd) (vA:List UInt8) (sA:Int) (bA:List ((List UInt8)×Int)) (dA:List ((List UInt8)×Int)) (hA:List (Int×Bool)) (k14:Y14):R :=
  chk (inb cB (List.length cA)) (chk (nlt (Int.toNat cB) (List.length cA)&&true) (k14 (List.set cA (Int.toNat cB) sA) gA iA fA bA dA (eI bN hA cB true)))
noncomputable def it3 (Kb2:ab U El) (n:Nat):ab U El:=bw nm3 (fun st' K'=>ac X (cdp [1,1,1,0,1,0,0] bd) (.seq none .d (.seq none .d (.seq none (.block (.seq none .d (.region [(7,56)]))) .d))) st' K' (aq 1 (ah nm2 Kb2) (fun _ _=>none)) RR) n
noncomputable def it5 (Kb4:ab U El) (n:Nat):ab U El:=bw nm5 (fun st' K'=>ac X (cdp [1,1,1,1,1,0,1,0,0] bd) .d st' K' (aq 3 (ah nm4 Kb4) (fun _ _=>none)) RR) n
noncomputable def it7 (Kb6:ab U El) (n:Nat):ab U El:=bw nm7 (fun st' K'=>ac X (cdp [1,1,1,1,1,1,0,1,0,0] bd) (.seq none .d (.seq none .d (.seq (some nm8) (.block (.seq none .d (.seq none .d (.seq (some nm9) (.seq none .d (.block (.loop kp (.seq none .d (.seq none .d (.seq (some kN) .d .d)))))) .d)))) .d))) st' K' (aq 5 (ah nm6 Kb6) (fun _ _=>none)) RR) n
noncomputable def ry (Kb6 Kb8 Kb9:ab U El) (n:Nat):ab U El:=bw kp (fun st' K'=>ac X (cdp [1,1,1,1,1,1,0,1,0,0,1,1,0,0,1,1,0,1,0,0] bd) (.seq none .d (.seq none .d (.seq (some kN) .d .d))) st' K' (aq 7 (ah nm9 Kb9) (aq 6 (ah nm8 Kb8) (aq 5 (ah nm6 Kb6) (fun _ _=>none)))) RR) n
noncomputable def qc (Kb12:ab U El) (n:Nat):ab U El:=bw kO (fun st' K'=>ac X (cdp [1,1,1,1,1,1,1,1,1,0,1,0,0] bd) (.seq none .d (.seq none .d (.seq (some kr) (.block (.seq none .d (.seq none .d (.seq none .d (.seq (some mh) .d .d))))) .d))) st' K' (aq 9 (ah kq Kb12) (fun _ _=>none)) RR) n
noncomputable def ct1:ab U El:=fun st=>ac X (cdp [1,1] bd) (.seq none .d (.seq (some nm2) (.seq none .d (.block (.loop nm3 (.seq none .d (.seq none .d (.seq none (.block (.seq none .d (.region [(7,56)]))) .d)))))) (.seq none .d (.seq (some nm4) (.seq none .d (.block (.loop nm5 .d))) (.seq (some nm6) (.seq none .d (.block (.loop nm7 (.seq none .d (.seq none .d (.seq (some nm8) (.block (.seq none .d (.seq none .d (.seq (some nm9) (.seq none .d (.block (.loop kp (.seq none .d (.seq none .d (.seq (some kN) .d .d)))))) .d)))) .d)))))) (.seq none .d (.seq none .d (.seq (some kq) (.seq none .d (.block (.loop kO (.seq none .d (.seq none .d (.seq (some kr) (.block (.seq none .d (.seq none .d (.seq none .d (.seq (some mh) .d .d))))) .d)))))) .d)))))))) st RR (fun _ _=>none) RR
noncomputable def ct2:ab U El:=fun st=>ac X (cdp [1,1,1,1] bd) (.seq none .d (.seq (some nm4) (.seq none .d (.block (.loop nm5 .d))) (.seq (some nm6) (.seq none .d (.block (.loop nm7 (.seq none .d (.seq none .d (.seq (some nm8) (.block (.seq none .d (.seq none .d (.seq (some nm9) (.seq none .d (.block (.loop kp (.seq none .d (.seq none .d (.seq (some kN) .d .d)))))) .d)))) .d)))))) (.seq none .d (.seq none .d (.seq (some kq) (.seq none .d (.block (.loop kO (.seq none .d (.seq none .d (.seq (some kr) (.block (.seq none .d (.seq none .d (.seq none .d (.seq (some mh) .d .d))))) .d)))))) .d)))))) st RR (fun _ _=>none) RR
noncomputable def ct4:ab U El:=fun st=>ac X (cdp [1,1,1,1,1,1] bd) (.seq (some nm6) (.seq none .d (.block (.loop nm7 (.seq none .d (.seq none .d (.seq (some nm8) (.block (.seq none .d (.seq none .d (.seq (some nm9) (.seq none .d (.block (.loop kp (.seq none .d (.seq none .d (.seq (some kN) .d .d)))))) .d)))) .d)))))) (.seq none .d (.seq none .d (.seq (some kq) (.seq none .d (.block (.loop kO (.seq none .d (.seq none .d (.seq (some kr) (.block (.seq none .d (.seq none .d (.seq none .d (.seq (some mh) .d .d))))) .d)))))) .d)))) st RR (fun _ _=>none) RR
noncomputable def ct6:ab U El:=fun st=>ac X (cdp [1,1,1,1,1,1,1] bd) (.seq none .d (.seq none .d (.seq (some kq) (.seq none .d (.block (.loop kO (.seq none .d (.seq none .d (.seq (some kr) (.block (.seq none .d (.seq none .d (.seq none .d (.seq (some mh) .d .d))))) .d)))))) .d))) st RR (fun _ _=>none) RR
noncomputable def ct8 (Kb6 Kb7:ab U El):ab U El:=fun st=>ac X (cdp [1,1,1,1,1,1,0,1,0,0,1,1,1] bd) .d st (ah nm7 Kb7) (aq 5 (ah nm6 Kb6) (fun _ _=>none)) RR
noncomputable def ct9 (Kb6 Kb8:ab U El):ab U El:=fun st=>ac X (cdp [1,1,1,1,1,1,0,1,0,0,1,1,0,0,1,1,1] bd) .d st (ah nm8 Kb8) (aq 6 (ah nm8 Kb8) (aq 5 (ah nm6 Kb6) (fun _ _=>none))) RR
noncomputable def sC (Kb6 Kb8 Kb9 Kb10:ab U El):ab U El:=fun st=>ac X (cdp [1,1,1,1,1,1,0,1,0,0,1,1,0,0,1,1,0,1,0,0,1,1,1] bd) .d st (ah kp Kb10) (aq 7 (ah nm9 Kb9) (aq 6 (ah nm8 Kb8) (aq 5 (ah nm6 Kb6) (fun _ _=>none)))) RR
noncomputable def gS:ab U El:=fun st=>ac X (cdp [1,1,1,1,1,1,1,1,1,1] bd) .d st RR (fun _ _=>none) RR
noncomputable def qd (Kb12 Kb13:ab U El):ab U El:=fun st=>ac X (cdp [1,1,1,1,1,1,1,1,1,0,1,0,0,1,1,1] bd) .d st (ah kO Kb13) (aq 9 (ah kq Kb12) (fun _ _=>none)) RR
noncomputable def sD (Kb12 Kb14:ab U El):ab U El:=fun st=>ac X (cdp [1,1,1,1,1,1,1,1,1,0,1,0,0,1,1,0,0,1,1,1,1] bd) .d st (ah kr Kb14) (aq 10 (ah kr Kb14) (aq 9 (ah kq Kb12) (fun _ _=>none))) RR
theorem P0 (l n v bf):ac X (cdp [] bd) (.seq none .d (.seq (some nm1) .d (.seq none .d (.seq (some nm2) (.seq none .d (.block (.loop nm3 (.seq none .d (.seq none .d (.seq none (.block (.seq none .d (.region [(7,56)]))) .d)))))) (.seq none .d (.seq (some nm4) (.seq none .d (.block (.loop nm5 .d))) (.seq (some nm6) (.seq none .d (.block (.loop nm7 (.seq none .d (.seq none .d (.seq (some nm8) (.block (.seq none .d (.seq none .d (.seq (some nm9) (.seq none .d (.block (.loop kp (.seq none .d (.seq none .d (.seq (some kN) .d .d)))))) .d)))) .d)))))) (.seq none .d (.seq none .d (.seq (some kq) (.seq none .d (.block (.loop kO (.seq none .d (.seq none .d (.seq (some kr) (.block (.seq none .d (.seq none .d (.seq none .d (.seq (some mh) .d .d))))) .d)))))) .d)))))))))) (fr0 l n v bf) RR (fun _ _=>none) RR=sh0 l n v bf (fun y0 y1 y2 y3 y4=>(hid ct1) (fr1 y0 y1 y2 y3 y4)):=by kernel_rfl
theorem P1 (l0 eA aA nA oA):ct1 (fr1 l0 eA aA nA oA)=sh1 l0 eA aA nA oA (fun y0 y1 y2 y3 y4 y5 y6 y7 y8=>(hid (it3 (hid ct2) 100000)) (fr3 y0 y1 y2 y3 y4 y5 y6 y7 y8)):=by kernel_rfl
theorem P2 (l0 aA nA oA bA):ct2 (fr2 l0 aA nA oA bA)=sh2 l0 aA nA oA bA (fun y0 y1 y2 y3 y4 y5 y6=>(hid (it5 (hid ct4) 100000)) (fr5 y0 y1 y2 y3 y4 y5 y6)):=by kernel_rfl
theorem P3 (l0 eA aA yA aB wA nA oA bA) (Kb2 Kb3:ab U El):ac X (cdp [1,1,1,0,1,0,0] bd) (.seq none .d (.seq none .d (.seq none (.block (.seq none .d (.region [(7,56)]))) .d))) (fr3 l0 eA aA yA aB wA nA oA bA) (ah nm3 Kb3) (aq 1 (ah nm2 Kb2) (fun _ _=>none)) RR=sh3 l0 eA aA yA aB wA nA oA bA (fun y0 y1 y2 y3 y4=>Kb2 (fr2 y0 y1 y2 y3 y4)) (fun y0 y1 y2 y3 y4 y5 y6 y7 y8=>Kb3 (fr3 y0 y1 y2 y3 y4 y5 y6 y7 y8)):=by kernel_rfl
theorem P4 (l0 aA bA dA):ct4 (fr4 l0 aA bA dA)=sh4 l0 aA bA dA (fun y0 y1 y2 y3 y4 y5 y6=>(hid (it7 (hid ct6) 100000)) (fr7 y0 y1 y2 y3 y4 y5 y6)):=by kernel_rfl
theorem P5 (l0 aA zA bB xA bA dA) (Kb4 Kb5:ab U El):ac X (cdp [1,1,1,1,1,0,1,0,0] bd) .d (fr5 l0 aA zA bB xA bA dA) (ah nm5 Kb5) (aq 3 (ah nm4 Kb4) (fun _ _=>none)) RR=sh5 l0 aA zA bB xA bA dA (fun y0 y1 y2 y3=>Kb4 (fr4 y0 y1 y2 y3)) (fun y0 y1 y2 y3 y4 y5 y6=>Kb5 (fr5 y0 y1 y2 y3 y4 y5 y6)):=by kernel_rfl
theorem P6 (l0 aA bA dA):ct6 (fr6 l0 aA bA dA)=sh6 l0 aA bA dA (fun y0 y1 y2 y3 y4 y5 y6=>(hid (qc (hid gS) 100000)) (oE y0 y1 y2 y3 y4 y5 y6)):=by kernel_rfl
theorem P7 (l0 aA kA mA jA bA dA) (Kb6 Kb7:ab U El):ac X (cdp [1,1,1,1,1,1,0,1,0,0] bd) (.seq none .d (.seq none .d (.seq (some nm8) (.block (.seq none .d (.seq none .d (.seq (some nm9) (.seq none .d (.block (.loop kp (.seq none .d (.seq none .d (.seq (some kN) .d .d)))))) .d)))) .d))) (fr7 l0 aA kA mA jA bA dA) (ah nm7 Kb7) (aq 5 (ah nm6 Kb6) (fun _ _=>none)) RR=sh7 l0 aA kA mA jA bA dA (fun y0 y1 y2 y3=>Kb6 (fr6 y0 y1 y2 y3)) (fun y0 y1 y2 y3 y4 y5 y6 y7 y8 y9 y10=>(hid (ry Kb6 (hid (ct8 Kb6 Kb7)) (hid (ct9 Kb6 (hid (ct8 Kb6 Kb7)))) 100000)) (qb y0 y1 y2 y3 y4 y5 y6 y7 y8 y9 y10)):=by kernel_rfl
theorem P8 (l0 aA kA mA jA bA dA) (Kb6 Kb7:ab U El):ct8 Kb6 Kb7 (fr8 l0 aA kA mA jA bA dA)=sh8 l0 aA kA mA jA bA dA (fun y0 y1 y2 y3 y4 y5 y6=>Kb7 (fr7 y0 y1 y2 y3 y4 y5 y6)):=by kernel_rfl
theorem P9 (l0 aA lA kA mA jA bA dA) (Kb6 Kb8:ab U El):ct9 Kb6 Kb8 (fr9 l0 aA lA kA mA jA bA dA)=sh9 l0 aA lA kA mA jA bA dA (fun y0 y1 y2 y3 y4 y5 y6=>Kb8 (fr8 y0 y1 y2 y3 y4 y5 y6)):=by kernel_rfl
theorem P10 (l0 aA lA kA mA jA qA rA pA bA dA) (Kb6 Kb8 Kb9 Kb10:ab U El):ac X (cdp [1,1,1,1,1,1,0,1,0,0,1,1,0,0,1,1,0,1,0,0] bd) (.seq none .d (.seq none .d (.seq (some kN) .d .d))) (qb l0 aA lA kA mA jA qA rA pA bA dA) (ah kp Kb10) (aq 7 (ah nm9 Kb9) (aq 6 (ah nm8 Kb8) (aq 5 (ah nm6 Kb6) (fun _ _=>none)))) RR=ru l0 aA lA kA mA jA qA rA pA bA dA (fun y0 y1 y2 y3 y4 y5 y6 y7=>Kb9 (fr9 y0 y1 y2 y3 y4 y5 y6 y7)) (fun y0 y1 y2 y3 y4 y5 y6 y7 y8 y9 y10=>(hid (sC Kb6 Kb8 Kb9 Kb10)) (ss y0 y1 y2 y3 y4 y5 y6 y7 y8 y9 y10)):=by kernel_rfl
theorem P11 (l0 aA lA kA mA jA qA rA pA bA dA) (Kb6 Kb8 Kb9 Kb10:ab U El):sC Kb6 Kb8 Kb9 Kb10 (ss l0 aA lA kA mA jA qA rA pA bA dA)=sx l0 aA lA kA mA jA qA rA pA bA dA (fun y0 y1 y2 y3 y4 y5 y6 y7 y8 y9 y10=>Kb10 (qb y0 y1 y2 y3 y4 y5 y6 y7 y8 y9 y10)):=by kernel_rfl
theorem P12 (cA):gS (su cA)=sy cA:=by kernel_rfl
theorem P13 (cA gA iA fA bA dA hA) (Kb12 Kb13:ab U El):ac X (cdp [1,1,1,1,1,1,1,1,1,0,1,0,0] bd) (.seq none .d (.seq none .d (.seq (some kr) (.block (.seq none .d (.seq none .d (.seq none .d (.seq (some mh) .d .d))))) .d))) (oE cA gA iA fA bA dA hA) (ah kO Kb13) (aq 9 (ah kq Kb12) (fun _ _=>none)) RR=rv cA gA iA fA bA dA hA (fun y0=>Kb12 (su y0)) (fun y0 y1 y2 y3 y4 y5 y6=>(hid (qd Kb12 Kb13)) (r7 y0 y1 y2 y3 y4 y5 y6)) (fun y0 y1 y2 y3 y4 y5 y6 y7 y8 y9 y10 y11=>(hid (sD Kb12 (hid (qd Kb12 Kb13)))) (sw y0 y1 y2 y3 y4 y5 y6 y7 y8 y9 y10 y11)):=by kernel_rfl
theorem P14 (cA gA iA fA bA dA hA) (Kb12 Kb13:ab U El):qd Kb12 Kb13 (r7 cA gA iA fA bA dA hA)=sB cA gA iA fA bA dA hA (fun y0 y1 y2 y3 y4 y5 y6=>Kb13 (oE y0 y1 y2 y3 y4 y5 y6)):=by kernel_rfl
theorem P15 (cA cB gA iA fA tA uA vA sA bA dA hA) (Kb12 Kb14:ab U El):sD Kb12 Kb14 (sw cA cB gA iA fA tA uA vA sA bA dA hA)=rx cA cB gA iA fA tA uA vA sA bA dA hA (fun y0 y1 y2 y3 y4 y5 y6=>Kb14 (r7 y0 y1 y2 y3 y4 y5 y6)):=by kernel_rfl
noncomputable def f12 (cA:List Int):R:=sy cA
noncomputable def f14 (dB:Y13) (cA:List Int) (gA:List Rule) (iA:Int) (fA:Int) (bA:List ((List UInt8)×Int)) (dA:List ((List UInt8)×Int)) (hA:List (Int×Bool)):R:=sB cA gA iA fA bA dA hA dB
noncomputable def f15 (dB:Y13) (cA:List Int) (cB:Int) (gA:List Rule) (iA:Int) (fA:Int) (tA:List UInt8) (uA:List Cnd) (vA:List UInt8) (sA:Int) (bA:List ((List UInt8)×Int)) (dA:List ((List UInt8)×Int)) (hA:List (Int×Bool)):R:=rx cA cB gA iA fA tA uA vA sA bA dA hA (f14 dB)
noncomputable def f13:Nat→Y13
  | 0=>fun _ _ _ _ _ _ _=>none
  | n+1=>fun cA gA iA fA bA dA hA=>rv cA gA iA fA bA dA hA f12 (f14 (f13 n)) (f15 (f13 n))
noncomputable def f6 (l0:List Rule) (aA:List Int) (bA:List ((List UInt8)×Int)) (dA:List ((List UInt8)×Int)):R:=sh6 l0 aA bA dA (f13 100000)
noncomputable def f8 (k7:Y7) (l0:List Rule) (aA:List Int) (kA:List Rule) (mA:Int) (jA:Int) (bA:List ((List UInt8)×Int)) (dA:List ((List UInt8)×Int)):R:=sh8 l0 aA kA mA jA bA dA k7
noncomputable def f9 (k7:Y7) (l0:List Rule) (aA:List Int) (lA:Bool) (kA:List Rule) (mA:Int) (jA:Int) (bA:List ((List UInt8)×Int)) (dA:List ((List UInt8)×Int)):R:=sh9 l0 aA lA kA mA jA bA dA (f8 k7)
noncomputable def f11 (k7:Y7) (eB:Y10) (l0:List Rule) (aA:List Int) (lA:Bool) (kA:List Rule) (mA:Int) (jA:Int) (qA:List Cnd) (rA:Int) (pA:Int) (bA:List ((List UInt8)×Int)) (dA:List ((List UInt8)×Int)):R:=sx l0 aA lA kA mA jA qA rA pA bA dA eB
noncomputable def f10 (k7:Y7):Nat→Y10
  | 0=>fun _ _ _ _ _ _ _ _ _ _ _=>none
  | n+1=>fun l0 aA lA kA mA jA qA rA pA bA dA=>ru l0 aA lA kA mA jA qA rA pA bA dA (f9 k7) (f11 k7 (f10 k7 n))
noncomputable def f7:Nat→Y7
  | 0=>fun _ _ _ _ _ _ _=>none
  | n+1=>fun l0 aA kA mA jA bA dA=>sh7 l0 aA kA mA jA bA dA f6 (f10 (f7 n) 100000)
noncomputable def f4 (l0:List Rule) (aA:List Int) (bA:List ((List UInt8)×Int)) (dA:List ((List UInt8)×Int)):R:=sh4 l0 aA bA dA (f7 100000)
noncomputable def f5:Nat→Y5
  | 0=>fun _ _ _ _ _ _ _=>none
  | n+1=>fun l0 aA zA bB xA bA dA=>sh5 l0 aA zA bB xA bA dA f4 (f5 n)
noncomputable def f2 (l0:List Rule) (aA:List Int) (nA:List Node) (oA:List Lnk) (bA:List ((List UInt8)×Int)):R:=sh2 l0 aA nA oA bA (f5 100000)
noncomputable def f3:Nat→Y3
  | 0=>fun _ _ _ _ _ _ _ _ _=>none
  | n+1=>fun l0 eA aA yA aB wA nA oA bA=>sh3 l0 eA aA yA aB wA nA oA bA f2 (f3 n)
noncomputable def f1 (l0:List Rule) (eA:List Int) (aA:List Int) (nA:List Node) (oA:List Lnk):R:=sh1 l0 eA aA nA oA (f3 100000)
noncomputable def f0 (l:List Rule) (n:Net) (v:List Int) (bf:List Int):R:=sh0 l n v bf f1
theorem T12 (cA):(hid gS) (su cA)=f12 cA:=by
  refine (congrFun (ai _) _).trans <| (P12 cA).trans ?_
  show _=sy cA
  rfl
theorem T14 (KL13:ab U El) (dB:Y13) (h13:∀ cA gA iA fA bA dA hA,KL13 (oE cA gA iA fA bA dA hA)=dB cA gA iA fA bA dA hA) (cA gA iA fA bA dA hA):(hid (qd (hid gS) KL13)) (r7 cA gA iA fA bA dA hA)=f14 dB cA gA iA fA bA dA hA:=by
  refine (congrFun (ai _) _).trans <| (P14 cA gA iA fA bA dA hA (hid gS) KL13).trans ?_
  show _=sB cA gA iA fA bA dA hA dB
  simp only [h13]
theorem T15 (KL13:ab U El) (dB:Y13) (h13:∀ cA gA iA fA bA dA hA,KL13 (oE cA gA iA fA bA dA hA)=dB cA gA iA fA bA dA hA) (cA cB gA iA fA tA uA vA sA bA dA hA):(hid (sD (hid gS) (hid (qd (hid gS) KL13)))) (sw cA cB gA iA fA tA uA vA sA bA dA hA)=f15 dB cA cB gA iA fA tA uA vA sA bA dA hA:=by
  refine (congrFun (ai _) _).trans <| (P15 cA cB gA iA fA tA uA vA sA bA dA hA (hid gS) (hid (qd (hid gS) KL13))).trans ?_
  show _=rx cA cB gA iA fA tA uA vA sA bA dA hA (f14 dB)
  simp only [T14 KL13 dB h13]
theorem T13:∀ (n:Nat),∀ cA gA iA fA bA dA hA,qc (hid gS) n (oE cA gA iA fA bA dA hA)=f13 n cA gA iA fA bA dA hA:=by
  intro n
  induction n with
  | zero=>intros; rfl
  | succ n ih =>
    intro cA gA iA fA bA dA hA
    refine (P13 cA gA iA fA bA dA hA (hid gS) (qc (hid gS) n)).trans ?_
    show _=rv cA gA iA fA bA dA hA f12 (f14 (f13 n)) (f15 (f13 n))
    simp only [T12,T14 (qc (hid gS) n) (f13 n) ih,T15 (qc (hid gS) n) (f13 n) ih]
theorem H13 (cA gA iA fA bA dA hA):hid (qc (hid gS) 100000) (oE cA gA iA fA bA dA hA)=f13 100000 cA gA iA fA bA dA hA:=(congrFun (ai _) _).trans (T13 100000 cA gA iA fA bA dA hA)
theorem T6 (l0 aA bA dA):(hid ct6) (fr6 l0 aA bA dA)=f6 l0 aA bA dA:=by
  refine (congrFun (ai _) _).trans <| (P6 l0 aA bA dA).trans ?_
  show _=sh6 l0 aA bA dA (f13 100000)
  simp only [H13]
theorem T8 (KL7:ab U El) (k7:Y7) (h7:∀ l0 aA kA mA jA bA dA,KL7 (fr7 l0 aA kA mA jA bA dA)=k7 l0 aA kA mA jA bA dA) (l0 aA kA mA jA bA dA):(hid (ct8 (hid ct6) KL7)) (fr8 l0 aA kA mA jA bA dA)=f8 k7 l0 aA kA mA jA bA dA:=by
  refine (congrFun (ai _) _).trans <| (P8 l0 aA kA mA jA bA dA (hid ct6) KL7).trans ?_
  show _=sh8 l0 aA kA mA jA bA dA k7
  simp only [h7]
theorem T9 (KL7:ab U El) (k7:Y7) (h7:∀ l0 aA kA mA jA bA dA,KL7 (fr7 l0 aA kA mA jA bA dA)=k7 l0 aA kA mA jA bA dA) (l0 aA lA kA mA jA bA dA):(hid (ct9 (hid ct6) (hid (ct8 (hid ct6) KL7)))) (fr9 l0 aA lA kA mA jA bA dA)=f9 k7 l0 aA lA kA mA jA bA dA:=by
  refine (congrFun (ai _) _).trans <| (P9 l0 aA lA kA mA jA bA dA (hid ct6) (hid (ct8 (hid ct6) KL7))).trans ?_
  show _=sh9 l0 aA lA kA mA jA bA dA (f8 k7)
  simp only [T8 KL7 k7 h7]
theorem T11 (KL7:ab U El) (KL10:ab U El) (k7:Y7) (eB:Y10) (h7:∀ l0 aA kA mA jA bA dA,KL7 (fr7 l0 aA kA mA jA bA dA)=k7 l0 aA kA mA jA bA dA) (h10:∀ l0 aA lA kA mA jA qA rA pA bA dA,KL10 (qb l0 aA lA kA mA jA qA rA pA bA dA)=eB l0 aA lA kA mA jA qA rA pA bA dA) (l0 aA lA kA mA jA qA rA pA bA dA):(hid (sC (hid ct6) (hid (ct8 (hid ct6) KL7)) (hid (ct9 (hid ct6) (hid (ct8 (hid ct6) KL7)))) KL10)) (ss l0 aA lA kA mA jA qA rA pA bA dA)=f11 k7 eB l0 aA lA kA mA jA qA rA pA bA dA:=by
  refine (congrFun (ai _) _).trans <| (P11 l0 aA lA kA mA jA qA rA pA bA dA (hid ct6) (hid (ct8 (hid ct6) KL7)) (hid (ct9 (hid ct6) (hid (ct8 (hid ct6) KL7)))) KL10).trans ?_
  show _=sx l0 aA lA kA mA jA qA rA pA bA dA eB
  simp only [h10]
theorem T10 (KL7:ab U El) (k7:Y7) (h7:∀ l0 aA kA mA jA bA dA,KL7 (fr7 l0 aA kA mA jA bA dA)=k7 l0 aA kA mA jA bA dA):∀ (n:Nat),∀ l0 aA lA kA mA jA qA rA pA bA dA,ry (hid ct6) (hid (ct8 (hid ct6) KL7)) (hid (ct9 (hid ct6) (hid (ct8 (hid ct6) KL7)))) n (qb l0 aA lA kA mA jA qA rA pA bA dA)=f10 k7 n l0 aA lA kA mA jA qA rA pA bA dA:=by
  intro n
  induction n with
  | zero=>intros; rfl
  | succ n ih =>
    intro l0 aA lA kA mA jA qA rA pA bA dA
    refine (P10 l0 aA lA kA mA jA qA rA pA bA dA (hid ct6) (hid (ct8 (hid ct6) KL7)) (hid (ct9 (hid ct6) (hid (ct8 (hid ct6) KL7)))) (ry (hid ct6) (hid (ct8 (hid ct6) KL7)) (hid (ct9 (hid ct6) (hid (ct8 (hid ct6) KL7)))) n)).trans ?_
    show _=ru l0 aA lA kA mA jA qA rA pA bA dA (f9 k7) (f11 k7 (f10 k7 n))
    simp only [T9 KL7 k7 h7,T11 KL7 (ry (hid ct6) (hid (ct8 (hid ct6) KL7)) (hid (ct9 (hid ct6) (hid (ct8 (hid ct6) KL7)))) n) k7 (f10 k7 n) h7 ih]
theorem H10 (KL7:ab U El) (k7:Y7) (h7:∀ l0 aA kA mA jA bA dA,KL7 (fr7 l0 aA kA mA jA bA dA)=k7 l0 aA kA mA jA bA dA) (l0 aA lA kA mA jA qA rA pA bA dA):hid (ry (hid ct6) (hid (ct8 (hid ct6) KL7)) (hid (ct9 (hid ct6) (hid (ct8 (hid ct6) KL7)))) 100000) (qb l0 aA lA kA mA jA qA rA pA bA dA)=f10 k7 100000 l0 aA lA kA mA jA qA rA pA bA dA:=(congrFun (ai _) _).trans (T10 KL7 k7 h7 100000 l0 aA lA kA mA jA qA rA pA bA dA)
theorem T7:∀ (n:Nat),∀ l0 aA kA mA jA bA dA,it7 (hid ct6) n (fr7 l0 aA kA mA jA bA dA)=f7 n l0 aA kA mA jA bA dA:=by
  intro n
  induction n with
  | zero=>intros; rfl
  | succ n ih =>
    intro l0 aA kA mA jA bA dA
    refine (P7 l0 aA kA mA jA bA dA (hid ct6) (it7 (hid ct6) n)).trans ?_
    show _=sh7 l0 aA kA mA jA bA dA f6 (f10 (f7 n) 100000)
    simp only [T6,H10 (it7 (hid ct6) n) (f7 n) ih]
theorem H7 (l0 aA kA mA jA bA dA):hid (it7 (hid ct6) 100000) (fr7 l0 aA kA mA jA bA dA)=f7 100000 l0 aA kA mA jA bA dA:=(congrFun (ai _) _).trans (T7 100000 l0 aA kA mA jA bA dA)
theorem T4 (l0 aA bA dA):(hid ct4) (fr4 l0 aA bA dA)=f4 l0 aA bA dA:=by
  refine (congrFun (ai _) _).trans <| (P4 l0 aA bA dA).trans ?_
  show _=sh4 l0 aA bA dA (f7 100000)
  simp only [H7]
theorem T5:∀ (n:Nat),∀ l0 aA zA bB xA bA dA,it5 (hid ct4) n (fr5 l0 aA zA bB xA bA dA)=f5 n l0 aA zA bB xA bA dA:=by
  intro n
  induction n with
  | zero=>intros; rfl
  | succ n ih =>
    intro l0 aA zA bB xA bA dA
    refine (P5 l0 aA zA bB xA bA dA (hid ct4) (it5 (hid ct4) n)).trans ?_
    show _=sh5 l0 aA zA bB xA bA dA f4 (f5 n)
    simp only [T4,ih]
theorem H5 (l0 aA zA bB xA bA dA):hid (it5 (hid ct4) 100000) (fr5 l0 aA zA bB xA bA dA)=f5 100000 l0 aA zA bB xA bA dA:=(congrFun (ai _) _).trans (T5 100000 l0 aA zA bB xA bA dA)
theorem T2 (l0 aA nA oA bA):(hid ct2) (fr2 l0 aA nA oA bA)=f2 l0 aA nA oA bA:=by
  refine (congrFun (ai _) _).trans <| (P2 l0 aA nA oA bA).trans ?_
  show _=sh2 l0 aA nA oA bA (f5 100000)
  simp only [H5]
theorem T3:∀ (n:Nat),∀ l0 eA aA yA aB wA nA oA bA,it3 (hid ct2) n (fr3 l0 eA aA yA aB wA nA oA bA)=f3 n l0 eA aA yA aB wA nA oA bA:=by
  intro n
  induction n with
  | zero=>intros; rfl
  | succ n ih =>
    intro l0 eA aA yA aB wA nA oA bA
    refine (P3 l0 eA aA yA aB wA nA oA bA (hid ct2) (it3 (hid ct2) n)).trans ?_
    show _=sh3 l0 eA aA yA aB wA nA oA bA f2 (f3 n)
    simp only [T2,ih]
theorem H3 (l0 eA aA yA aB wA nA oA bA):hid (it3 (hid ct2) 100000) (fr3 l0 eA aA yA aB wA nA oA bA)=f3 100000 l0 eA aA yA aB wA nA oA bA:=(congrFun (ai _) _).trans (T3 100000 l0 eA aA yA aB wA nA oA bA)
theorem T1 (l0 eA aA nA oA):(hid ct1) (fr1 l0 eA aA nA oA)=f1 l0 eA aA nA oA:=by
  refine (congrFun (ai _) _).trans <| (P1 l0 eA aA nA oA).trans ?_
  show _=sh1 l0 eA aA nA oA (f3 100000)
  simp only [H3]
theorem T0 (l n v bf):ac X bd (.seq none .d (.seq (some nm1) .d (.seq none .d (.seq (some nm2) (.seq none .d (.block (.loop nm3 (.seq none .d (.seq none .d (.seq none (.block (.seq none .d (.region [(7,56)]))) .d)))))) (.seq none .d (.seq (some nm4) (.seq none .d (.block (.loop nm5 .d))) (.seq (some nm6) (.seq none .d (.block (.loop nm7 (.seq none .d (.seq none .d (.seq (some nm8) (.block (.seq none .d (.seq none .d (.seq (some nm9) (.seq none .d (.block (.loop kp (.seq none .d (.seq none .d (.seq (some kN) .d .d)))))) .d)))) .d)))))) (.seq none .d (.seq none .d (.seq (some kq) (.seq none .d (.block (.loop kO (.seq none .d (.seq none .d (.seq (some kr) (.block (.seq none .d (.seq none .d (.seq none .d (.seq (some mh) .d .d))))) .d)))))) .d)))))))))) (fr0 l n v bf) RR (fun _ _=>none) RR=f0 l n v bf:=by
  refine (P0 l n v bf).trans ?_
  show _=sh0 l n v bf f1
  simp only [T1]
theorem run (l n v bf):aJ X bd (.seq none .d (.seq (some nm1) .d (.seq none .d (.seq (some nm2) (.seq none .d (.block (.loop nm3 (.seq none .d (.seq none .d (.seq none (.block (.seq none .d (.region [(7,56)]))) .d)))))) (.seq none .d (.seq (some nm4) (.seq none .d (.block (.loop nm5 .d))) (.seq (some nm6) (.seq none .d (.block (.loop nm7 (.seq none .d (.seq none .d (.seq (some nm8) (.block (.seq none .d (.seq none .d (.seq (some nm9) (.seq none .d (.block (.loop kp (.seq none .d (.seq none .d (.seq (some kN) .d .d)))))) .d)))) .d)))))) (.seq none .d (.seq none .d (.seq (some kq) (.seq none .d (.block (.loop kO (.seq none .d (.seq none .d (.seq (some kr) (.block (.seq none .d (.seq none .d (.seq none .d (.seq (some mh) .d .d))))) .d)))))) .d)))))))))) nmR [8,9] [8] [(.lst .rule l),(.agg [(.lst .node n.nds),(.lst .link n.lks)]),(.lst .int v),(.lst .int bf)]=f0 l n v bf:=T0 l n v bf
theorem sE (n0 : Net) (l : List Rule) (hl : l.length ≤ 60) (hw : ∀ r ∈ l, r.rw.length ≤ 20) (am lm : List ((List UInt8) × Int)) (hm : ∀ r ∈ l, bx bq lm r.rl aL = aF n0 r.rl) (hz : ∀ r ∈ l, 0 ≤ aF n0 r.rl ∧ aF n0 r.rl < (n0.lks.length : Int)) : ∀ (n i : Nat) (out : List Int) (st : List (Int × Bool)), l.length < n + i → i ≤ l.length → out.length = n0.lks.length →
    f13 n out l (Int.ofNat l.length) (i:Int) am lm st=rp (di n0 am (l.drop i) out st):=by
  intro n
  induction n with
  | zero=>intro i out st h1 h2; omega
  | succ n ih =>
    intro i out st h1 h2 h3
    show rv out l (Int.ofNat l.length) (i:Int) am lm st f12 (f14 (f13 n)) (f15 (f13 n))=_
    unfold rv
    by_cases hi:i < l.length
    · have hmem := List.getElem_mem hi
      have hr:=hw _ hmem
      obtain ⟨z1,z2⟩:=hz _ hmem
      obtain ⟨q,hq⟩:=Int.eq_ofNat_of_zero_le z1
      have hqo:q < out.length:=by omega
      have e1:f14 (f13 n) out l (Int.ofNat l.length) (i:Int) am lm st=rp (di n0 am (l.drop (i+1)) out st):=by
        show f13 n out l (Int.ofNat l.length) (IntKind.wrap .i64 ((i:Int)+1)) am lm st=_
        rw [bD i (by omega)]
        exact ih (i+1) out st (by omega) hi h3
      have e2:f15 (f13 n) out (q:Int) l (Int.ofNat l.length) (i:Int) l[i].rn l[i].rw l[i].rl l[i].rs am lm st=rp (di n0 am (l.drop (i+1)) (List.set out q l[i].rs) (eI bN st (q:Int) true)):=by
        show rx out (q:Int) l (Int.ofNat l.length) (i:Int) l[i].rn l[i].rw l[i].rl l[i].rs am lm st (f14 (f13 n))=_
        unfold rx
        rw [aW hqo,ak,df hqo]
        show f13 n (List.set out q l[i].rs) l (Int.ofNat l.length) (IntKind.wrap .i64 ((i:Int)+1)) am lm (eI bN st (q:Int) true)=_
        rw [bD i (by omega)]
        exact ih (i+1) _ _ (by omega) hi (by simpa using h3)
      rw [aX (by simp; omega),aW hi,ak i,ar hi,bc hi,bE (show l[i].rw.length≤90000 by omega),hm _ hmem,hq,aW hqo,ak q,df hqo,e1,e2]
      simp only [bG,bL,di]
      rw [hq,ak]
      cases List.any l[i].rw (bg am) with
      | true=>rfl
      | false =>
        cases bx bN st (q:Int) d_bool with
        | false=>rfl
        | true =>
          cases List.getD out q aL != l[i].rs<;>rfl
    · have : i = l.length := by omega
      subst this
      rw [aR (by simp),List.drop_length]
      rfl
theorem sF (k7:Y7) (l:List Rule) (bf:List Int) (x:List Rule) (L i:Int) (w:List Cnd) (am lm:List ((List UInt8)×Int)) (hw:w.length≤90000) (hm:∀ c∈w,dY bq am c.cn=true):∀ (n j:Nat),w.length < n+j→j≤w.length→f10 k7 n l bf true x L i w (Int.ofNat w.length) (j:Int) am lm=f8 k7 l bf x L i am lm:=by
  intro n
  induction n with
  | zero=>intro j h1 h2; omega
  | succ n ih =>
    intro j h1 h2
    show ru l bf true x L i w (Int.ofNat w.length) (j:Int) am lm (f9 k7) (f11 k7 (f10 k7 n))=_
    unfold ru
    by_cases hj:j < w.length
    · rw [aX (by simp; omega), aW hj, ak, ar hj, hm _ (List.getElem_mem hj)]
      show f10 k7 n l bf true x L i w (Int.ofNat w.length) (IntKind.wrap .i64 ((j:Int)+1)) am lm=_
      rw [bD j (by omega),ih (j+1) (by omega) hj]
    · have : j = w.length := by omega
      subst this
      rw [aR (by simp)]
      rfl
theorem s7 (l:List Rule) (bf:List Int) (am lm:List ((List UInt8)×Int)) (hl:l.length≤60) (hw:∀ r∈l,r.rw.length≤20) (hm:∀ r∈l,∀ c∈r.rw,dY bq am c.cn=true) (hk:∀ r∈l,dY bq lm r.rl=true):∀ (n i:Nat),l.length < n+i→i≤l.length→f7 n l bf l (Int.ofNat l.length) (i:Int) am lm=f6 l bf am lm:=by
  intro n
  induction n with
  | zero=>intro i h1 h2; omega
  | succ n ih =>
    intro i h1 h2
    show sh7 l bf l (Int.ofNat l.length) (i:Int) am lm f6 (f10 (f7 n) 100000)=_
    unfold sh7
    by_cases hi:i < l.length
    · have hmem := List.getElem_mem hi
      have hr:=hw _ hmem
      have e:=sF (f7 n) l bf l (Int.ofNat l.length) (i:Int) l[i].rw am lm (by omega) (hm _ hmem) 100000 0 (by omega) (by omega)
      rw [aX (by simp; omega),aW hi,ak,ar hi,hk _ hmem,show ((0:Int))=((0:Nat):Int) from rfl,e]
      show f7 n l bf l (Int.ofNat l.length) (IntKind.wrap .i64 ((i:Int)+1)) am lm=_
      rw [bD i (by omega),ih (i+1) (by omega) hi]
    · have : i = l.length := by omega
      subst this
      rw [aR (by simp)]
      rfl
theorem s8 (l : List Rule) (bf : List Int) (n0 : Net) (hb : cz n0 = true) (hn : n0.lks.length ≤ 90000) (am : List ((List UInt8) × Int)) : ∀ (n i : Nat), n0.lks.length < n + i → i ≤ n0.lks.length → f5 n l bf n0.lks (Int.ofNat n0.lks.length) (i : Int) am (gi 0 (n0.lks.take i)) = f4 l bf am (gi 0 n0.lks) := by
  intro n
  induction n with
  | zero=>intro i h1 h2; omega
  | succ n ih =>
    intro i h1 h2
    show sh5 l bf n0.lks (Int.ofNat n0.lks.length) (i:Int) am (gi 0 (n0.lks.take i)) f4 (f5 n)=_
    unfold sh5
    by_cases hi:i < n0.lks.length
    · have h3 : dY bq (gi 0 (n0.lks.take i)) n0.lks[i].ln = false := by unfold dY; rw [lC, rt hb i hi]; rfl
      have h4:gi 0 (n0.lks.take i)++[(n0.lks[i].ln,(i:Int))]=gi 0 (n0.lks.take (i+1)):=by
        rw [dN hi,qa,List.length_take,Nat.zero_add,Nat.min_eq_left (by omega)]
      rw [aX (by simp; omega),aW hi,ak,ar hi,nu h3,h4,bD i (by omega)]
      exact ih (i+1) (by omega) hi
    · have : i = n0.lks.length := by omega
      subst this
      rw [aR (by simp),List.take_length]
      rfl
theorem s9 (l : List Rule) (v bf : List Int) (n0 : Net) (hb : cz n0 = true) (hn : n0.nds.length ≤ 90000) (hv : v.length = n0.nds.length) : ∀ (n i : Nat), n0.nds.length < n + i → i ≤ n0.nds.length → f3 n l v bf n0.nds (Int.ofNat n0.nds.length) (i : Int) n0.nds n0.lks (List.zip ((aU n0).take i) (v.take i)) = f2 l bf n0.nds n0.lks (List.zip (aU n0) v) := by
  have hnl:(aU n0).length=n0.nds.length:=by simp [aU]
  intro n
  induction n with
  | zero=>intro i h1 h2; omega
  | succ n ih =>
    intro i h1 h2
    show sh3 l v bf n0.nds (Int.ofNat n0.nds.length) (i:Int) n0.nds n0.lks (List.zip ((aU n0).take i) (v.take i)) f2 (f3 n)=_
    unfold sh3
    by_cases hi:i < n0.nds.length
    · have hv' : i < v.length := by omega
      have hni:i < (aU n0).length:=by omega
      have hnm:(aU n0)[i]=n0.nds[i].nn:=by simp [aU]
      have h3:dY bq (List.zip ((aU n0).take i) (v.take i)) n0.nds[i].nn=false:=by
        rw [nv _ _ _ (by simp; omega),← hnm]
        have:=allI_iff.1 (oC hb) i _ (List.getElem?_eq_getElem hni)
        rw [Nat.zero_add] at this
        simpa using this
      have h4:List.zip ((aU n0).take i) (v.take i)++[(n0.nds[i].nn,v[i])]=List.zip ((aU n0).take (i+1)) (v.take (i+1)):=by
        rw [dN hni,dN hv',List.zip_append (by simp; omega),hnm]
        rfl
      rw [aX (by simp; omega),aW hi,aW hv',ak,ar hi,ar hv',nu h3,h4,bD i (by omega)]
      exact ih (i+1) (by omega) hi
    · have : i = n0.nds.length := by omega
      subst this
      rw [aR (by simp),List.take_of_length_le (by omega),List.take_of_length_le (by omega)]
      rfl
theorem f0_eq (l:List Rule) (n:Net) (v bf:List Int) (h:(okN n&&gz l n v bf)=true):f0 l n v bf=some (.tup [.ful 0,.int .i64 (gC l n v bf)],[(0,.rows .int (eS l n v bf))]):=by
  simp only [gz,Bool.and_eq_true,Bool.not_eq_true'] at h
  obtain ⟨h0,h1,h2,h3,h4,h5,h6⟩:=h
  have hn1:=bQ (cr h0); have hn2:=bQ (gd h0)
  have hv:=Nat.eq_of_beq_eq_true h4
  have hbf:=Nat.eq_of_beq_eq_true h5
  obtain ⟨g1,g2⟩:=bo h1
  have hw:∀ r∈l,r.rw.length≤20:=fun r hr=>(cK (g2 r hr)).1
  show sh0 l n v bf f1=_
  unfold sh0
  have e1:((Int.ofNat (List.length v)) != (Int.ofNat (List.length n.nds)))=false:=by rw [hv]; simp
  have e2:((Int.ofNat (List.length bf)) != (Int.ofNat (List.length n.lks)))=false:=by rw [hbf]; simp
  have e3:nle bf.length 90000=true:=bE (by omega)
  rw [h1,h0,h2,e1,e2,e3,h6]
  show f1 l v bf n.nds n.lks=_
  show f3 100000 l v bf n.nds (Int.ofNat n.nds.length) 0 n.nds n.lks []=_
  refine (s9 l v bf n h2 hn1 hv 100000 0 (by omega) (by omega)).trans ?_
  show f5 100000 l bf n.lks (Int.ofNat n.lks.length) 0 (List.zip (aU n) v) []=_
  refine (s8 l bf n h2 hn2 _ 100000 0 (by omega) (by omega)).trans ?_
  show f7 100000 l bf l (Int.ofNat l.length) 0 (List.zip (aU n) v) (gi 0 n.lks)=_
  have hnl:(aU n).length=v.length:=by rw [hv]; simp [aU]
  have hlm:∀ r∈l,dQ bq (gi 0 n.lks) r.rl=some (aF n r.rl):=fun r hr=>by
    rw [lC,(ib (dM h3 r hr)).2.2]; rfl
  refine (s7 l bf (List.zip (aU n) v) (gi 0 n.lks) g1 hw (fun r hr c hc=>by rw [nv _ _ _ hnl]; exact lx (gR h3 r hr c hc)) (fun r hr=>by unfold dY; rw [hlm r hr]; rfl) 100000 0 (by omega) (by omega)).trans ?_
  show sh6 l bf (List.zip (aU n) v) (gi 0 n.lks) (f13 100000)=_
  unfold sh6
  rw [e3]
  exact sE n l g1 hw _ _ (fun r hr=>by unfold bx; rw [hlm r hr]; rfl) (fun r hr=>⟨(ib (dM h3 r hr)).1,(ib (dM h3 r hr)).2.1⟩) 100000 0 bf [] (by omega) (by omega) hbf
theorem ok:CtxOk Tryz.prog X:=aI tab (spC se1C.spOk (spC valid.spOk (spC uholds.spOk (spC nvalid.spOk (spC cloneI.spOk spN))))) dpN
theorem okM:MOk Tryz.prog X:=fun g sp h=>by cases h
theorem spec (l:List Rule) (n:Net) (v:List Int) (bf:List Int) (h:((okN n&&gz l n v bf))=true):aj Tryz.prog E 52 [(.lst .rule l),(.agg [(.lst .node n.nds),(.lst .link n.lks)]),(.lst .int v),(.lst .int bf)] (.tup [(.ful 0),(.int .i64 (gC l n v bf))]) [(0,.rows .int (eS l n v bf))] :=
  ae ok okM Tryz.call52 Tryz.func52 (by kernel_rfl) (by kernel_rfl) (by kernel_rfl) (by show 4≤160; decide) (by decide) (by rfl) ((run l n v bf).trans (f0_eq l n v bf h))
noncomputable def sp:Sp U El:=fun args k=>match args with
  | [.lst .rule l,.agg [.lst .node n_nds,.lst .link n_lks],.lst .int v,.lst .int bf]=>chk ((okN (⟨n_nds,n_lks⟩:Net)&&gz l (⟨n_nds,n_lks⟩:Net) v bf)) (k (.tup [(.ful 0),(.int .i64 (gC l (⟨n_nds,n_lks⟩:Net) v bf))]) [(0,.rows .int (eS l (⟨n_nds,n_lks⟩:Net) v bf))])
  | _=>none
theorem spOk:SpOk Tryz.prog E 52 sp where
  det:=fun vs=>by
    unfold sp
    split
    · exact aY _ _ _
    · exact ⟨none,fun _=>rfl⟩
  ok:=fun vs k r h=>by
    unfold sp at h
    split at h
    · obtain ⟨h1, h2⟩ := af h
      exact ⟨_,_,spec _ ⟨_,_⟩ _ _ h1,h2⟩
    · cases h
end usettings
end Go.Proofs.YthdimnlkcgchoaaGreat

namespace Go.Proofs.YthdimnlkcgchoaaGreat
set_option linter.unusedSectionVars false
set_option linter.unusedSimpArgs false
set_option linter.unusedVariables false
set_option maxRecDepth 100000
theorem eH (a b:Int):bN a b=true↔a=b:=by unfold bN; simp
theorem qe {n : Net} {am : List ((List UInt8) × Int)} : ∀ (suf pre : List Rule) (out : List Int) (st : List (Int × Bool)),
    (∀ a∈pre++suf,0≤aF n a.rl∧aF n a.rl < (out.length:Int)) →
    (∀ a∈pre++suf,∀ b∈pre++suf,List.any a.rw (bg am)=false→List.any b.rw (bg am)=false→aF n a.rl=aF n b.rl→a.rs=b.rs) →
    (∀ q:Int,bx bN st q d_bool=true→∃ a∈pre,List.any a.rw (bg am)=false∧aF n a.rl=q∧List.getD out (Int.toNat q) aL=a.rs) →
    (di n am suf out st).isSome=true:=by
  intro suf
  induction suf with
  | nil=>intro pre out st _ _ _; rfl
  | cons r suf ih =>
    intro pre out st hz hc hst
    simp only [di]
    have happ:pre++r :: suf=(pre++[r])++suf:=by simp
    cases hf:List.any r.rw (bg am) with
    | true =>
      show (di n am suf out st).isSome=true
      refine ih (pre++[r]) out st (happ ▸ hz) (happ ▸ hc) fun q hq => ?_
      obtain ⟨a,ha,h⟩:=hst q hq
      exact ⟨a,by simp [ha],h⟩
    | false =>
      have hr:r∈pre++r :: suf:=by simp
      obtain ⟨z1,z2⟩:=hz r hr
      have hnc:(bx bN st (aF n r.rl) d_bool&&(List.getD out (Int.toNat (aF n r.rl)) aL != r.rs))=false:=by
        cases hm:bx bN st (aF n r.rl) d_bool with
        | false=>rfl
        | true =>
          obtain ⟨a,ha,h1,h2,h3⟩:=hst _ hm
          have:=hc a (by simp [ha]) r hr h1 hf h2
          rw [h3,this]
          simp
      rw [hnc]
      show (di n am suf (List.set out (Int.toNat (aF n r.rl)) r.rs) (eI bN st (aF n r.rl) true)).isSome=true
      refine ih (pre++[r]) _ _ (fun a ha=>by rw [List.length_set]; exact hz a (happ ▸ ha)) (happ ▸ hc) fun q hq => ?_
      unfold bx at hq
      rw [iy bN eH] at hq
      by_cases e:q=aF n r.rl
      · subst e
        refine ⟨r,by simp,hf,rfl,?_⟩
        rw [ar (by rw [List.length_set]; omega)]
        simp
      · have e1 : bN q (aF n r.rl) = false := by
          cases h:bN q (aF n r.rl) with
          | false=>rfl
          | true=>exact absurd ((eH _ _).1 h) e
        rw [e1,cond_false] at hq
        obtain ⟨a,ha,h1,h2,h3⟩:=hst q hq
        refine ⟨a,by simp [ha],h1,h2,?_⟩
        obtain ⟨y1,y2⟩:=hz a (by simp [ha])
        rw [← h3]
        have hne:Int.toNat (aF n r.rl)≠Int.toNat q:=by omega
        simp [List.getD,List.getElem?_set_ne hne]
theorem qg {n:Net} {a b:List UInt8} (ha:ilt (aF n a) 0=false) (h:aF n a=aF n b):a=b:=by
  have h1:=iw ha
  rcases kn (bU a) n.lks 0 with e | ⟨j,hj,e1,e2⟩
  · unfold aF at h1; omega
  · rcases kn (bU b) n.lks 0 with f | ⟨k, hk, f1, f2⟩
    · unfold aF at h h1; omega
    · have hjk : j = k := by unfold aF at h; omega
      subst hjk
      simp only [bU,beq_iff_eq] at e2 f2
      rw [← e2,← f2]
end Go.Proofs.YthdimnlkcgchoaaGreat

namespace Go.Proofs.YthdimnlkcgchoaaGreat
set_option linter.unusedSectionVars false
set_option linter.unusedSimpArgs false
set_option linter.unusedVariables false
set_option maxRecDepth 100000
theorem lD {n : Net} {am : List ((List UInt8) × Int)} : ∀ (suf : List Rule) (out : List Int) (st : List (Int × Bool)) (z : List Int), (∀ a ∈ suf, 0 ≤ aF n a.rl ∧ aF n a.rl < (out.length : Int)) → di n am suf out st = some z →
    (∀ r∈suf,List.any r.rw (bg am)=false→bx bN st (aF n r.rl) d_bool=true→List.getD out (Int.toNat (aF n r.rl)) aL=r.rs) ∧
    suf.Pairwise (fun a b=>List.any a.rw (bg am)=false→List.any b.rw (bg am)=false→aF n a.rl=aF n b.rl→a.rs=b.rs):=by
  intro suf
  induction suf with
  | nil=>intro out st z _ _; exact ⟨fun r hr=>(by cases hr),List.Pairwise.nil⟩
  | cons r suf ih =>
    intro out st z hz h
    simp only [di] at h
    have hzs:∀ a∈suf,0≤aF n a.rl∧aF n a.rl < (out.length:Int):=fun a ha=>hz a (by simp [ha])
    obtain ⟨z1,z2⟩:=hz r (by simp)
    cases hf:List.any r.rw (bg am) with
    | true =>
      rw [hf] at h
      obtain ⟨i1,i2⟩:=ih out st z hzs h
      refine ⟨fun r' hr' h1 h2 => ?_,List.pairwise_cons.2 ⟨fun b hb h1=>(by rw [hf] at h1; cases h1),i2⟩⟩
      rcases List.mem_cons.1 hr' with rfl | hr'
      · rw [hf] at h1; cases h1
      · exact i1 r' hr' h1 h2
    | false =>
      rw [hf] at h
      simp only [Bool.not_false,cond_true] at h
      cases hnc:(bx bN st (aF n r.rl) d_bool&&(List.getD out (Int.toNat (aF n r.rl)) aL != r.rs)) with
      | true=>rw [hnc] at h; cases h
      | false =>
        rw [hnc,cond_false] at h
        obtain ⟨i1,i2⟩:=ih _ _ z (fun a ha=>by rw [List.length_set]; exact hzs a ha) h
        have hself:bx bN st (aF n r.rl) d_bool=true→List.getD out (Int.toNat (aF n r.rl)) aL=r.rs:=fun e=>by
          rw [e,Bool.true_and] at hnc
          simpa using hnc
        have hput:∀ q:Int,bx bN (eI bN st (aF n r.rl) true) q d_bool=bif bN q (aF n r.rl) then true else bx bN st q d_bool:=fun q=>by
          unfold bx
          rw [iy bN eH]
          cases bN q (aF n r.rl)<;>rfl
        have bZ:List.getD (List.set out (Int.toNat (aF n r.rl)) r.rs) (Int.toNat (aF n r.rl)) aL=r.rs:=by
          rw [ar (by rw [List.length_set]; omega)]
          simp
        have hsame:∀ b∈suf,List.any b.rw (bg am)=false→aF n r.rl=aF n b.rl→r.rs=b.rs:=fun b hb h1 h2=>by
          have:=i1 b hb h1 (by rw [hput,(eH _ _).2 h2.symm]; rfl)
          rw [← h2,bZ] at this
          exact this
        refine ⟨fun r' hr' h1 h2 => ?_,List.pairwise_cons.2 ⟨fun b hb _ h1 h2=>hsame b hb h1 h2,i2⟩⟩
        rcases List.mem_cons.1 hr' with rfl | hr'
        · exact hself h2
        · by_cases e : aF n r.rl = aF n r'.rl
          · rw [← e] at h2 ⊢
            rw [hself h2]
            exact hsame r' hr' h1 e
          · have hk : bN (aF n r'.rl) (aF n r.rl) = false := by
              cases hh:bN (aF n r'.rl) (aF n r.rl) with
              | false=>rfl
              | true=>exact absurd ((eH _ _).1 hh).symm e
            have:=i1 r' hr' h1 (by rw [hput,hk]; exact h2)
            obtain ⟨y1,y2⟩:=hzs r' hr'
            rw [← this]
            have hne:Int.toNat (aF n r.rl)≠Int.toNat (aF n r'.rl):=by omega
            simp [List.getD,List.getElem?_set_ne hne]
theorem nB {n:Net} {am:List ((List UInt8)×Int)} {l:List Rule} {bf:List Int} (hz:∀ a∈l,0≤aF n a.rl∧aF n a.rl < (bf.length:Int)) {j k:Nat} (hj:j < l.length) (hk:k < l.length) (h1:List.any l[j].rw (bg am)=false) (h2:List.any l[k].rw (bg am)=false) (h3:l[j].rl=l[k].rl) (h4:l[j].rs≠l[k].rs):di n am l bf []=none:=by
  cases h:di n am l bf [] with
  | none=>rfl
  | some z =>
    obtain ⟨_,p⟩:=lD l bf [] z hz h
    rcases Nat.lt_trichotomy j k with e | e | e
    · exact absurd (List.pairwise_iff_getElem.1 p j k hj hk e h1 h2 (by rw [h3])) h4
    · subst e; exact absurd rfl h4
    · exact absurd (List.pairwise_iff_getElem.1 p k j hk hj e h2 h1 (by rw [h3])).symm h4
theorem pg {l:List Rule} {n:Net} {v:List Int} (g1:a6 l=true) (g2:cz n=true) (g3:ca l n=true) (hv:v.length=n.nds.length):gz l n v (List.replicate n.lks.length aL)=true:=by
  unfold gz
  rw [g1,g2,g3,hv,List.length_replicate,Nat.beq_refl,Nat.beq_refl]
  have:List.any (List.replicate n.lks.length aL) dh=false:=List.any_eq_false.2 fun x hx=>by
    have:=List.eq_of_mem_replicate hx
    subst this
    decide
  rw [this]
  rfl
theorem nC {l:List Rule} {n:Net} (hk:ca l n=true) {v:List Int} (hv:v.length=n.nds.length) {r:Rule} (hr:r∈l):List.any r.rw (bg (List.zip (aU n) v)) = !(m3 (aU n) v r.rw):=by
  have hl:(aU n).length=v.length:=by rw [hv,aU,List.length_map]
  unfold m3
  rw [Bool.not_not]
  exact s5 fun c hc=>rk hl (lx (gR hk r hr c hc))
end Go.Proofs.YthdimnlkcgchoaaGreat
