import Derived.Test.YthdimnlkcgchoaaGreatVK
namespace Go.Proofs.YthdimnlkcgchoaaGreat
set_option linter.all false
set_option maxRecDepth 100000
noncomputable def outPE (l:List Pair) (e:Int):R:=some (.tup [.ful 0,.int .i64 e],[(0,.rows .pair l)])
noncomputable def outIE (l:List Int) (e:Int):R:=some (.tup [.ful 0,.int .i64 e],[(0,.rows .int l)])
theorem given_cases (l:List Rule) (n:Net):(givenZ l n=0∧(givenZ l n == 0)=true∧(givenZ l n != 0)=false)∨(givenZ l n≠0∧(givenZ l n == 0)=false∧(givenZ l n != 0)=true):=by
 by_cases h:givenZ l n=0
 ·left; rw [h]; exact ⟨rfl,rfl,rfl⟩
 ·right; exact ⟨h,by simpa using h,by simpa using h⟩
namespace find
noncomputable def bd:Code:=(Tryz.f17.body).getD .skip
noncomputable def X:Ctx U El:=⟨E,tds,zeros,eqs,specOf [(62,given.sp),(66,cfind.sp)],100000,16,dspecOf [],fun _=>none,fun _=>none⟩
noncomputable def nmR:Norm U:=⟨[(4,.pair)],[4,5],[4],[],[],[],[]⟩
noncomputable def RR:Kont U El:=fun st=>normK nmR st (retFin [4,5] [4])
noncomputable def fr0 (l:List Rule) (n:Net):St U El:=⟨[(0,(.lst .rule l)),(1,(.agg [(.lst .node n.nds),(.lst .link n.lks)]))],[]⟩
noncomputable def sh0 (l:List Rule) (n:Net):R :=
 chk (okN n) (condB ((givenZ l n) != (0:Int)) (some ((.tup [(.ful 0),(.int .i64 (givenZ l n))]),[(0,.rows .pair ([]:List Pair))])) (chk ((okN n&&rulesB l)) (some ((.tup [(.ful 0),(.int .i64 (0:Int))]),[(0,.rows .pair (findP l n))]))))
theorem P0 (l n):exec X (cdp [] bd) .d (fr0 l n) RR (fun _ _=>none) RR=sh0 l n:=by kernel_rfl
noncomputable def f0 (l:List Rule) (n:Net):R:=sh0 l n
theorem T0 (l n):exec X bd .d (fr0 l n) RR (fun _ _=>none) RR=f0 l n:=by
 refine (P0 l n).trans ?_
 show _=sh0 l n
 rfl
theorem run (l n):runFn X bd .d nmR [4,5] [4] [(.lst .rule l),(.agg [(.lst .node n.nds),(.lst .link n.lks)])]=f0 l n:=T0 l n
theorem f0_eq (l:List Rule) (n:Net) (h:okN n=true):f0 l n=outPE (findL l n) (givenZ l n):=by
 show sh0 l n=_
 unfold sh0 findL
 rw [h]
 rcases given_cases l n with ⟨e1,e2,e3⟩ | ⟨e1,e2,e3⟩
 ·rw [e2,e3,(given0 e1).1,e1]; rfl
 ·rw [e2,e3]; rfl
theorem ok:CtxOk Tryz.prog X:=ctxOk tab (spC given.spOk (spC cfind.spOk spN)) dpN
theorem okM:MOk Tryz.prog X:=fun g sp h=>by cases h
theorem spec (l:List Rule) (n:Net) (h:(okN n)=true):CallSpec Tryz.prog E 17 [(.lst .rule l),(.agg [(.lst .node n.nds),(.lst .link n.lks)])] (.tup [(.ful 0),(.int .i64 (givenZ l n))]) [(0,.rows .pair (findL l n))] :=
 rfs ok okM Tryz.call17 Tryz.func17 ((run l n).trans (f0_eq l n h))
noncomputable def sp:Sp U El:=fun args k=>match args with
 | [.lst .rule l,.agg [.lst .node n_nds,.lst .link n_lks]]=>chk (okN (⟨n_nds,n_lks⟩:Net)) (k (.tup [(.ful 0),(.int .i64 (givenZ l (⟨n_nds,n_lks⟩:Net)))]) [(0,.rows .pair (findL l (⟨n_nds,n_lks⟩:Net)))])
 | _=>none
theorem spOk:SpOk Tryz.prog E 17 sp:=⟨fun vs=>by unfold sp;split;exact det_c _ _ _;exact ⟨none,fun _=>rfl⟩,fun vs k r h=>by unfold sp at h;split at h;(obtain ⟨h1,h2⟩:=chk_some h;exact ⟨_,_,spec _ ⟨_,_⟩ h1,h2⟩);cases h⟩
end find
theorem rng_cond (l:List Rule) (a:Int) (x y:R):condB (ilt a 0) x (condB (ile (Int.ofNat l.length) a) x y)=condB (rngB l a) y x:=by
 unfold rngB
 rw [cOr2]
 have e1:ile 0 a = !(ilt a 0):=by rw [not_ilt]
 have e2:ilt a (Int.ofNat l.length) = !(ile (Int.ofNat l.length) a):=by rw [not_ile]
 rw [e1,e2]
 cases ilt a 0<;>cases ile (Int.ofNat l.length) a<;>rfl
theorem rng_inb {l:List Rule} {a:Int} (h:rngB l a=true):inb a l.length=true∧List.getD l (Int.toNat a) d_rule∈l:=by
 simp only [rngB,Bool.and_eq_true] at h
 have h1:=ileI h.1; have h2:=iltI h.2
 refine ⟨by simp only [inb,ile,ilt,Bool.and_eq_true,decide_eq_true_eq]; simp at h2; omega,?_⟩
 have:Int.toNat a < l.length:=by simp at h2; omega
 rw [getD_lt this]; exact List.getElem_mem _
namespace witness
noncomputable def bd:Code:=(Tryz.f14.body).getD .skip
noncomputable def X:Ctx U El:=⟨E,tds,zeros,eqs,specOf [(62,given.sp),(63,least.sp)],100000,54,dspecOf [],fun _=>none,fun _=>none⟩
noncomputable def nmR:Norm U:=⟨[(8,.int)],[8,9],[8],[],[],[],[]⟩
noncomputable def RR:Kont U El:=fun st=>normK nmR st (retFin [8,9] [8])
noncomputable def nm1:Norm U:=⟨[],[0,2,3,5],[5],[],[],[],[(5,0,.node),(5,1,.link)]⟩
abbrev Y1:=(List Rule)→Int→Int→(List Node)→(List Lnk)→R
noncomputable def fr0 (l:List Rule) (n:Net) (a:Int) (b:Int):St U El:=⟨[(0,(.lst .rule l)),(1,(.agg [(.lst .node n.nds),(.lst .link n.lks)])),(2,(.int .i64 a)),(3,(.int .i64 b))],[]⟩
noncomputable def fr1 (l0:List Rule) (a2:Int) (b3:Int) (dA:List Node) (eA:List Lnk):St U El:=⟨[(0,(.lst .rule l0)),(2,(.int .i64 a2)),(3,(.int .i64 b3)),(5,(.ptr 5 0))],[(5,(.box 0 [(.lst .node dA),(.lst .link eA)]))]⟩
noncomputable def sh0 (l:List Rule) (n:Net) (a:Int) (b:Int) (k1:Y1):R :=
 chk (okN n) (condB ((givenZ l n) != (0:Int)) (some ((.tup [(.ful 0),(.int .i64 (givenZ l n))]),[(0,.rows .int ([]:List Int))])) (condB (ilt a (0:Int)) (some ((.tup [(.ful 0),(.int .i64 (2:Int))]),[(0,.rows .int ([]:List Int))])) (condB (ile (Int.ofNat (List.length l)) a) (some ((.tup [(.ful 0),(.int .i64 (2:Int))]),[(0,.rows .int ([]:List Int))])) (condB (ilt b (0:Int)) (some ((.tup [(.ful 0),(.int .i64 (2:Int))]),[(0,.rows .int ([]:List Int))])) (condB (ile (Int.ofNat (List.length l)) b) (some ((.tup [(.ful 0),(.int .i64 (2:Int))]),[(0,.rows .int ([]:List Int))])) (k1 l a b n.nds n.lks))))))
noncomputable def sh1 (l0:List Rule) (a2:Int) (b3:Int) (dA:List Node) (eA:List Lnk):R :=
 chk (inb a2 (List.length l0)) (chk (inb b3 (List.length l0)) (chk ((okN (⟨dA,eA⟩:Net)&&(okR ([(List.getD l0 (Int.toNat a2) d_rule),(List.getD l0 (Int.toNat b3) d_rule)]:List Rule)&&okWs ([(List.getD l0 (Int.toNat a2) d_rule),(List.getD l0 (Int.toNat b3) d_rule)]:List Rule)))) (condB (!(leastB (Net.nds (⟨dA,eA⟩:Net)) (List.flatMap Rule.rw ([(List.getD l0 (Int.toNat a2) d_rule),(List.getD l0 (Int.toNat b3) d_rule)]:List Rule)))) (some ((.tup [(.ful 0),(.int .i64 (12:Int))]),[(0,.rows .int ([]:List Int))])) (some ((.tup [(.ful 0),(.int .i64 (0:Int))]),[(0,.rows .int (leastL (Net.nds (⟨dA,eA⟩:Net)) (List.flatMap Rule.rw ([(List.getD l0 (Int.toNat a2) d_rule),(List.getD l0 (Int.toNat b3) d_rule)]:List Rule))))])))))
noncomputable def ct1:Kont U El:=fun st=>exec X (cdp [1,1,1] bd) .d st RR (fun _ _=>none) RR
theorem P0 (l n a b):exec X (cdp [] bd) (.seq none .d (.seq none .d (.seq (some nm1) .d .d))) (fr0 l n a b) RR (fun _ _=>none) RR=sh0 l n a b (fun y0 y1 y2 y3 y4=>(hid ct1) (fr1 y0 y1 y2 y3 y4)):=by kernel_rfl
theorem P1 (l0 a2 b3 dA eA):ct1 (fr1 l0 a2 b3 dA eA)=sh1 l0 a2 b3 dA eA:=by kernel_rfl
noncomputable def f1 (l0:List Rule) (a2:Int) (b3:Int) (dA:List Node) (eA:List Lnk):R:=sh1 l0 a2 b3 dA eA
noncomputable def f0 (l:List Rule) (n:Net) (a:Int) (b:Int):R:=sh0 l n a b f1
theorem T1 (l0 a2 b3 dA eA):(hid ct1) (fr1 l0 a2 b3 dA eA)=f1 l0 a2 b3 dA eA:=by
 refine (congrFun (hid_eq _) _).trans <| (P1 l0 a2 b3 dA eA).trans ?_
 show _=sh1 l0 a2 b3 dA eA
 rfl
theorem T0 (l n a b):exec X bd (.seq none .d (.seq none .d (.seq (some nm1) .d .d))) (fr0 l n a b) RR (fun _ _=>none) RR=f0 l n a b:=by
 refine (P0 l n a b).trans ?_
 show _=sh0 l n a b f1
 simp only [T1]
theorem run (l n a b):runFn X bd (.seq none .d (.seq none .d (.seq (some nm1) .d .d))) nmR [8,9] [8] [(.lst .rule l),(.agg [(.lst .node n.nds),(.lst .link n.lks)]),(.int .i64 a),(.int .i64 b)]=f0 l n a b:=T0 l n a b
theorem f0_eq (l : List Rule) (n : Net) (a b : Int) (h : okN n = true) : f0 l n a b = outIE (witL l n a b) (witE l n a b) := by
  show sh0 l n a b f1=_
  unfold sh0 witL witE
  rw [h]
  rcases given_cases l n with ⟨e1,e2,e3⟩ | ⟨e1,e2,e3⟩
  · obtain ⟨g1, g2, _⟩ := given0 e1
    rw [e2,e3]
    simp only [chkT,condF,rng_cond,Bool.true_and,cond_false]
    cases ha:rngB l a with
    | false=>rfl
    | true =>
      cases hb:rngB l b with
      | false=>rfl
      | true =>
        obtain ⟨p1,p2⟩:=rng_inb ha
        obtain ⟨q1,q2⟩:=rng_inb hb
        show sh1 l a b n.nds n.lks=_
        unfold sh1
        have h1':okN (⟨n.nds,n.lks⟩:Net)=true:=h
        rw [p1,q1,h1',two_ok ((rulesB_len g1).2 _ p2) ((rulesB_len g1).2 _ q2),flat2]
        show condB (!((witO l n a b).isSome)) (outIE [] 12) (outIE ((witO l n a b).getD []) 0)=_
        cases witO l n a b<;>rfl
  · rw [e2,e3]; rfl
theorem ok:CtxOk Tryz.prog X:=ctxOk tab (spC given.spOk (spC least.spOk spN)) dpN
theorem okM:MOk Tryz.prog X:=fun g sp h=>by cases h
theorem spec (l:List Rule) (n:Net) (a:Int) (b:Int) (h:(okN n)=true):CallSpec Tryz.prog E 14 [(.lst .rule l),(.agg [(.lst .node n.nds),(.lst .link n.lks)]),(.int .i64 a),(.int .i64 b)] (.tup [(.ful 0),(.int .i64 (witE l n a b))]) [(0,.rows .int (witL l n a b))] :=
 rfs ok okM Tryz.call14 Tryz.func14 ((run l n a b).trans (f0_eq l n a b h))
noncomputable def sp:Sp U El:=fun args k=>match args with
 | [.lst .rule l,.agg [.lst .node n_nds,.lst .link n_lks],.int .i64 a,.int .i64 b]=>chk (okN (⟨n_nds,n_lks⟩:Net)) (k (.tup [(.ful 0),(.int .i64 (witE l (⟨n_nds,n_lks⟩:Net) a b))]) [(0,.rows .int (witL l (⟨n_nds,n_lks⟩:Net) a b))])
 | _=>none
theorem spOk:SpOk Tryz.prog E 14 sp:=⟨fun vs=>by unfold sp;split;exact det_c _ _ _;exact ⟨none,fun _=>rfl⟩,fun vs k r h=>by unfold sp at h;split at h;(obtain ⟨h1,h2⟩:=chk_some h;exact ⟨_,_,spec _ ⟨_,_⟩ _ _ h1,h2⟩);cases h⟩
end witness
namespace dead
noncomputable def bd:Code:=(Tryz.f18.body).getD .skip
noncomputable def X:Ctx U El:=⟨E,tds,zeros,eqs,specOf [(62,given.sp),(63,least.sp)],100000,40,dspecOf [],fun _=>none,fun _=>none⟩
noncomputable def nmR:Norm U:=⟨[(4,.int)],[4,5],[4],[],[],[],[]⟩
noncomputable def RR:Kont U El:=fun st=>normK nmR st (retFin [4,5] [4])
noncomputable def nm1:Norm U:=⟨[(7,.int)],[7],[7],[],[],[],[]⟩
noncomputable def nm2:Norm U:=⟨[(7,.int)],[3,7,18,19,20],[7,3],[],[],[],[(3,0,.node),(3,1,.link)]⟩
noncomputable def nm3:Norm U:=⟨[(7,.int)],[3,7,18,19,20],[7,3],[],[],[],[(3,0,.node),(3,1,.link)]⟩
abbrev Y1:=(List Int)→R
abbrev Y2:=(List Int)→(List Rule)→Int→Int→(List Node)→(List Lnk)→R
abbrev Y3:=(List Int)→(List Rule)→Int→Int→(List Node)→(List Lnk)→R
noncomputable def fr0 (l:List Rule) (n:Net):St U El:=⟨[(0,(.lst .rule l)),(1,(.agg [(.lst .node n.nds),(.lst .link n.lks)]))],[]⟩
noncomputable def fr1 (aA:List Int):St U El:=⟨[(7,(.ful 7))],[(7,(.rows .int aA))]⟩
noncomputable def fr2 (aA:List Int) (hA:List Rule) (iA:Int) (fA:Int) (bA:List Node) (cA:List Lnk):St U El:=⟨[(3,(.ptr 3 0)),(7,(.ful 7)),(18,(.lst .rule hA)),(19,(.int .i64 iA)),(20,(.int .i64 fA))],[(7,(.rows .int aA)),(3,(.box 0 [(.lst .node bA),(.lst .link cA)]))]⟩
noncomputable def fr3 (aA:List Int) (hA:List Rule) (iA:Int) (fA:Int) (bA:List Node) (cA:List Lnk):St U El:=⟨[(3,(.ptr 3 0)),(7,(.ful 7)),(18,(.lst .rule hA)),(19,(.int .i64 iA)),(20,(.int .i64 fA))],[(7,(.rows .int aA)),(3,(.box 0 [(.lst .node bA),(.lst .link cA)]))]⟩
noncomputable def sh0 (l:List Rule) (n:Net) (k2:Y2):R :=
 chk (okN n) (condB ((givenZ l n) != (0:Int)) (some ((.tup [(.ful 0),(.int .i64 (givenZ l n))]),[(0,.rows .int ([]:List Int))])) (k2 ([]:List Int) l (Int.ofNat (List.length l)) (0:Int) n.nds n.lks))
noncomputable def sh1 (aA:List Int):R :=
 some ((.tup [(.ful 0),(.int .i64 (0:Int))]),[(0,.rows .int aA)])
noncomputable def sh2 (aA:List Int) (hA:List Rule) (iA:Int) (fA:Int) (bA:List Node) (cA:List Lnk) (k1:Y1) (k3:Y3):R :=
 condB (ilt fA iA) (chk (inb fA (List.length hA)) (chk ((okN (⟨bA,cA⟩:Net)&&(okR ([(List.getD hA (Int.toNat fA) d_rule)]:List Rule)&&okWs ([(List.getD hA (Int.toNat fA) d_rule)]:List Rule)))) (condB (!(leastB (Net.nds (⟨bA,cA⟩:Net)) (List.flatMap Rule.rw ([(List.getD hA (Int.toNat fA) d_rule)]:List Rule)))) (chk (nle ((List.length aA+List.length ([fA]:List Int)) * 8) 140737488355328&&nle (List.length aA+List.length ([fA]:List Int)) 9223372036854775807) (k3 (aA++([fA]:List Int)) hA iA fA bA cA)) (k3 aA hA iA fA bA cA)))) (k1 aA)
noncomputable def sh3 (aA:List Int) (hA:List Rule) (iA:Int) (fA:Int) (bA:List Node) (cA:List Lnk) (k2:Y2):R :=
 k2 aA hA iA (IntKind.wrap .i64 (fA+(1:Int))) bA cA
noncomputable def it2 (Kb1:Kont U El) (n:Nat):Kont U El:=iter nm2 (fun st' K'=>exec X (cdp [1,1,1,0,1,0,0] bd) (.seq none .d (.seq none .d (.seq (some nm3) .d .d))) st' K' (Eblk 0 (cutK nm1 Kb1) (fun _ _=>none)) RR) n
noncomputable def ct1:Kont U El:=fun st=>exec X (cdp [1,1,1,1] bd) .d st RR (fun _ _=>none) RR
noncomputable def ct3 (Kb1 Kb2:Kont U El):Kont U El:=fun st=>exec X (cdp [1,1,1,0,1,0,0,1,1,1] bd) .d st (cutK nm2 Kb2) (Eblk 0 (cutK nm1 Kb1) (fun _ _=>none)) RR
theorem P0 (l n):exec X (cdp [] bd) (.seq none .d (.seq none .d (.seq none .d (.seq (some nm1) (.seq none .d (.block (.loop nm2 (.seq none .d (.seq none .d (.seq (some nm3) .d .d)))))) .d)))) (fr0 l n) RR (fun _ _=>none) RR=sh0 l n (fun y0 y1 y2 y3 y4 y5=>(hid (it2 (hid ct1) 100000)) (fr2 y0 y1 y2 y3 y4 y5)):=by kernel_rfl
theorem P1 (aA):ct1 (fr1 aA)=sh1 aA:=by kernel_rfl
theorem P2 (aA hA iA fA bA cA) (Kb1 Kb2:Kont U El):exec X (cdp [1,1,1,0,1,0,0] bd) (.seq none .d (.seq none .d (.seq (some nm3) .d .d))) (fr2 aA hA iA fA bA cA) (cutK nm2 Kb2) (Eblk 0 (cutK nm1 Kb1) (fun _ _=>none)) RR=sh2 aA hA iA fA bA cA (fun y0=>Kb1 (fr1 y0)) (fun y0 y1 y2 y3 y4 y5=>(hid (ct3 Kb1 Kb2)) (fr3 y0 y1 y2 y3 y4 y5)):=by kernel_rfl
theorem P3 (aA hA iA fA bA cA) (Kb1 Kb2:Kont U El):ct3 Kb1 Kb2 (fr3 aA hA iA fA bA cA)=sh3 aA hA iA fA bA cA (fun y0 y1 y2 y3 y4 y5=>Kb2 (fr2 y0 y1 y2 y3 y4 y5)):=by kernel_rfl
noncomputable def f1 (aA:List Int):R:=sh1 aA
noncomputable def f3 (k2:Y2) (aA:List Int) (hA:List Rule) (iA:Int) (fA:Int) (bA:List Node) (cA:List Lnk):R:=sh3 aA hA iA fA bA cA k2
noncomputable def f2:Nat→Y2
 | 0=>fun _ _ _ _ _ _=>none
 | n+1=>fun aA hA iA fA bA cA=>sh2 aA hA iA fA bA cA f1 (f3 (f2 n))
noncomputable def f0 (l:List Rule) (n:Net):R:=sh0 l n (f2 100000)
theorem T1 (aA):(hid ct1) (fr1 aA)=f1 aA:=by
 refine (congrFun (hid_eq _) _).trans <| (P1 aA).trans ?_
 show _=sh1 aA
 rfl
theorem T3 (KL2:Kont U El) (k2:Y2) (h2:∀ aA hA iA fA bA cA,KL2 (fr2 aA hA iA fA bA cA)=k2 aA hA iA fA bA cA) (aA hA iA fA bA cA):(hid (ct3 (hid ct1) KL2)) (fr3 aA hA iA fA bA cA)=f3 k2 aA hA iA fA bA cA:=by
 refine (congrFun (hid_eq _) _).trans <| (P3 aA hA iA fA bA cA (hid ct1) KL2).trans ?_
 show _=sh3 aA hA iA fA bA cA k2
 simp only [h2]
theorem T2:∀ (n:Nat),∀ aA hA iA fA bA cA,it2 (hid ct1) n (fr2 aA hA iA fA bA cA)=f2 n aA hA iA fA bA cA:=by
  intro n
  induction n with
  | zero=>intros; rfl
  | succ n ih =>
    intro aA hA iA fA bA cA
    refine (P2 aA hA iA fA bA cA (hid ct1) (it2 (hid ct1) n)).trans ?_
    show _=sh2 aA hA iA fA bA cA f1 (f3 (f2 n))
    simp only [T1,T3 (it2 (hid ct1) n) (f2 n) ih]
theorem H2 (aA hA iA fA bA cA):hid (it2 (hid ct1) 100000) (fr2 aA hA iA fA bA cA)=f2 100000 aA hA iA fA bA cA:=(congrFun (hid_eq _) _).trans (T2 100000 aA hA iA fA bA cA)
theorem T0 (l n):exec X bd (.seq none .d (.seq none .d (.seq none .d (.seq (some nm1) (.seq none .d (.block (.loop nm2 (.seq none .d (.seq none .d (.seq (some nm3) .d .d)))))) .d)))) (fr0 l n) RR (fun _ _=>none) RR=f0 l n:=by
 refine (P0 l n).trans ?_
 show _=sh0 l n (f2 100000)
 simp only [H2]
theorem run (l n):runFn X bd (.seq none .d (.seq none .d (.seq none .d (.seq (some nm1) (.seq none .d (.block (.loop nm2 (.seq none .d (.seq none .d (.seq (some nm3) .d .d)))))) .d)))) nmR [4,5] [4] [(.lst .rule l),(.agg [(.lst .node n.nds),(.lst .link n.lks)])]=f0 l n:=T0 l n
theorem loop (l : List Rule) (hr : rulesB l = true) (n0 : Net) (hn : okN n0 = true) : ∀ (n i : Nat) (out : List Int), l.length < n + i → i ≤ l.length → out.length ≤ i → f2 n out l (Int.ofNat l.length) (i : Int) n0.nds n0.lks = outIE (out ++ deadI n0 i (l.drop i)) 0 := by
  have hl:=(rulesB_len hr).1
  intro n
  induction n with
  | zero=>intro i out h1 h2; omega
  | succ n ih =>
    intro i out h1 h2 h3
    show sh2 out l (Int.ofNat l.length) (i:Int) n0.nds n0.lks f1 (f3 (f2 n))=_
    unfold sh2
    by_cases hi:i < l.length
    · have ha := (rulesB_len hr).2 _ (List.getElem_mem hi)
      have hk:∀ out':List Int,out'.length≤i+1→f3 (f2 n) out' l (Int.ofNat l.length) (i:Int) n0.nds n0.lks=outIE (out'++deadI n0 (i+1) (l.drop (i+1))) 0:=fun out' ho=>by
        show f2 n out' l (Int.ofNat l.length) (IntKind.wrap .i64 ((i:Int)+1)) n0.nds n0.lks=_
        rw [wrapS i (by omega)]
        exact ih (i+1) out' (by omega) hi ho
      have h1':okN (⟨n0.nds,n0.lks⟩:Net)=true:=hn
      rw [iltT (by simp; omega),inbT hi,toNat_nat,getD_lt hi,drop_lt hi,hk out (by omega),hk (out++[(i:Int)]) (by simp; omega),h1',one_ok ha,flat1,nleT (show _≤140737488355328 by simp; omega),nleT (show _≤9223372036854775807 by simp; omega)]
      simp only [condT,chkT,deadI,Bool.true_and,Bool.and_true]
      show condB (!(leastB n0.nds l[i].rw)) _ _=_
      cases leastB n0.nds l[i].rw
      · simp only [Bool.not_false,condT,cond_false,List.append_assoc,List.singleton_append]
      · rfl
    · have : i = l.length := by omega
      subst this
      rw [iltF (by simp),List.drop_length,deadI,List.append_nil]
      rfl
theorem f0_eq (l:List Rule) (n:Net) (h:okN n=true):f0 l n=outIE (deadL l n) (givenZ l n):=by
 show sh0 l n (f2 100000)=_
 unfold sh0 deadL
 rw [h]
 rcases given_cases l n with ⟨e1,e2,e3⟩ | ⟨e1,e2,e3⟩
 ·obtain ⟨g1,g2,_⟩:=given0 e1
  have hl:=(rulesB_len g1).1
  rw [e2,e3,e1]
  exact loop l g1 n h 100000 0 [] (by omega) (by omega) (by simp)
 ·rw [e2,e3]; rfl
theorem ok:CtxOk Tryz.prog X:=ctxOk tab (spC given.spOk (spC least.spOk spN)) dpN
theorem okM:MOk Tryz.prog X:=fun g sp h=>by cases h
theorem spec (l:List Rule) (n:Net) (h:(okN n)=true):CallSpec Tryz.prog E 18 [(.lst .rule l),(.agg [(.lst .node n.nds),(.lst .link n.lks)])] (.tup [(.ful 0),(.int .i64 (givenZ l n))]) [(0,.rows .int (deadL l n))] :=
 rfs ok okM Tryz.call18 Tryz.func18 ((run l n).trans (f0_eq l n h))
noncomputable def sp:Sp U El:=fun args k=>match args with
 | [.lst .rule l,.agg [.lst .node n_nds,.lst .link n_lks]]=>chk (okN (⟨n_nds,n_lks⟩:Net)) (k (.tup [(.ful 0),(.int .i64 (givenZ l (⟨n_nds,n_lks⟩:Net)))]) [(0,.rows .int (deadL l (⟨n_nds,n_lks⟩:Net)))])
 | _=>none
theorem spOk:SpOk Tryz.prog E 18 sp:=⟨fun vs=>by unfold sp;split;exact det_c _ _ _;exact ⟨none,fun _=>rfl⟩,fun vs k r h=>by unfold sp at h;split at h;(obtain ⟨h1,h2⟩:=chk_some h;exact ⟨_,_,spec _ ⟨_,_⟩ h1,h2⟩);cases h⟩
end dead
namespace accepted
noncomputable def bd:Code:=(Tryz.f22.body).getD .skip
noncomputable def X:Ctx U El:=⟨E,tds,zeros,eqs,specOf [(62,given.sp),(66,cfind.sp)],100000,16,dspecOf [],fun _=>none,fun _=>none⟩
noncomputable def nmR:Norm U:=⟨[],[4],[],[],[],[],[]⟩
noncomputable def RR:Kont U El:=fun st=>normK nmR st (retFin [4] [])
noncomputable def fr0 (l:List Rule) (n:Net):St U El:=⟨[(0,(.lst .rule l)),(1,(.agg [(.lst .node n.nds),(.lst .link n.lks)]))],[]⟩
noncomputable def sh0 (l:List Rule) (n:Net):R :=
 chk (okN n) (condB ((givenZ l n) == (0:Int)) (chk ((okN n&&rulesB l)) (some ((.bool ((Int.ofNat (List.length (findP l n))) == (0:Int))),[]))) (some ((.bool false),[])))
theorem P0 (l n):exec X (cdp [] bd) .d (fr0 l n) RR (fun _ _=>none) RR=sh0 l n:=by kernel_rfl
noncomputable def f0 (l:List Rule) (n:Net):R:=sh0 l n
theorem T0 (l n):exec X bd .d (fr0 l n) RR (fun _ _=>none) RR=f0 l n:=by
 refine (P0 l n).trans ?_
 show _=sh0 l n
 rfl
theorem run (l n):runFn X bd .d nmR [4] [] [(.lst .rule l),(.agg [(.lst .node n.nds),(.lst .link n.lks)])]=f0 l n:=T0 l n
theorem f0_eq (l:List Rule) (n:Net) (h:okN n=true):f0 l n=outB (accB l n):=by
 show sh0 l n=_
 unfold sh0 accB
 rw [h]
 rcases given_cases l n with ⟨e1,e2,e3⟩ | ⟨e1,e2,e3⟩
 ·rw [e2,(given0 e1).1]; rfl
 ·rw [e2]; rfl
theorem ok:CtxOk Tryz.prog X:=ctxOk tab (spC given.spOk (spC cfind.spOk spN)) dpN
theorem okM:MOk Tryz.prog X:=fun g sp h=>by cases h
theorem spec (l:List Rule) (n:Net) (h:(okN n)=true):CallSpec Tryz.prog E 22 [(.lst .rule l),(.agg [(.lst .node n.nds),(.lst .link n.lks)])] (.bool (accB l n)) [] :=
 rfs ok okM Tryz.call22 Tryz.func22 ((run l n).trans (f0_eq l n h))
noncomputable def sp:Sp U El:=fun args k=>match args with
 | [.lst .rule l,.agg [.lst .node n_nds,.lst .link n_lks]]=>chk (okN (⟨n_nds,n_lks⟩:Net)) (k (.bool (accB l (⟨n_nds,n_lks⟩:Net))) [])
 | _=>none
theorem spOk:SpOk Tryz.prog E 22 sp:=⟨fun vs=>by unfold sp;split;exact det_c _ _ _;exact ⟨none,fun _=>rfl⟩,fun vs k r h=>by unfold sp at h;split at h;(obtain ⟨h1,h2⟩:=chk_some h;exact ⟨_,_,spec _ ⟨_,_⟩ h1,h2⟩);cases h⟩
end accepted
end Go.Proofs.YthdimnlkcgchoaaGreat
