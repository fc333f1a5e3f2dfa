import Derived.Test.YthdimnlkcgchoaaGreatVC
namespace Go.Proofs.YthdimnlkcgchoaaGreat
set_option linter.all false
set_option maxRecDepth 100000
theorem not_ilt (a b:Int):(!(ilt a b))=ile b a:=by
 by_cases h:a < b
 ·rw [iltT h,ileF (by omega)]; rfl
 ·rw [iltF h,ileT (by omega)]; rfl
theorem not_ile (a b:Int):(!(ile a b))=ilt b a:=by rw [← not_ilt]; simp
theorem notLev_inR (n:Int):notLev n = !(inR 4194304 n):=by
 unfold notLev inR
 rw [Bool.not_and,not_ile,not_ile]
noncomputable def nodeB (n:Node):Bool :=
  nameB n.nn&&(inR 16777216 n.nx&&(inR 16777216 n.ny&&(inR 4194304 n.ni&&(inR 4194304 n.ng &&
    (bif n.nk == 3 then ile n.ni n.ng&&((Int.ofNat n.nh.length == 0)&&(!n.np&&(n.nr == 0)))
     else bif (n.nk == 1||n.nk == 2) then !(ile n.ng n.ni)&&(shapeB n.nh (IntKind.wrap .i64 (n.ng - n.ni))&&(bif n.np then (n.nk == 2)&&(ile 0 n.nr&&ile n.nr (lastK n.nh).ky) else (n.nr == 0)))
     else false)))))
theorem shape_last {t:List Knot} {d:Int} (h:shapeB t d=true):IntKind.wrap .i64 (Int.ofNat t.length - 1)=((t.length - 1:Nat):Int)∧inb ((t.length - 1:Nat):Int) t.length=true:=by
 have ht:=(Bool.and_eq_true_iff.1 h).1
 exact ⟨lastI ht,inbT (by have:=(tableB_len ht).1; omega)⟩
namespace rightNode
noncomputable def bd:Code:=(Tryz.f136.body).getD .skip
noncomputable def X:Ctx U El:=⟨E,tds,zeros,eqs,specOf [(139,isname.sp),(148,between.sp),(149,level.sp),(150,shaped.sp)],100000,101,dspecOf [],fun _=>none,fun _=>none⟩
noncomputable def nmR:Norm U:=⟨[],[2],[],[],[],[],[]⟩
noncomputable def RR:Kont U El:=fun st=>normK nmR st (retFin [2] [])
noncomputable def nm1:Norm U:=⟨[],[1],[1],[],[],[],[(1,6,.knot)]⟩
noncomputable def nm2:Norm U:=⟨[],[],[],[],[],[],[]⟩
noncomputable def nm3:Norm U:=⟨[],[1,31,32],[1],[],[],[],[(1,6,.knot)]⟩
noncomputable def nm4:Norm U:=⟨[],[1],[1],[],[],[],[(1,6,.knot)]⟩
abbrev Y1:=(List UInt8)→Int→Int→Int→Int→Int→(List Knot)→Bool→Int→R
abbrev Y2:=R
abbrev Y3:=Int→Bool→(List UInt8)→Int→Int→Int→Int→Int→(List Knot)→Bool→Int→R
abbrev Y4:=(List UInt8)→Int→Int→Int→Int→Int→(List Knot)→Bool→Int→R
noncomputable def fr0 (n:Node):St U El:=⟨[(0,(.agg [(.str n.nn),(.int .i64 n.nk),(.int .i64 n.nx),(.int .i64 n.ny),(.int .i64 n.ni),(.int .i64 n.ng),(.lst .knot n.nh),(.bool n.np),(.int .i64 n.nr)]))],[]⟩
noncomputable def fr1 (gA:List UInt8) (bA:Int) (hA:Int) (iA:Int) (dA:Int) (eA:Int) (aA:List Knot) (fA:Bool) (cA:Int):St U El:=⟨[(1,(.ptr 1 0))],[(1,(.box 0 [(.str gA),(.int .i64 bA),(.int .i64 hA),(.int .i64 iA),(.int .i64 dA),(.int .i64 eA),(.lst .knot aA),(.bool fA),(.int .i64 cA)]))]⟩
noncomputable def fr2:St U El:=⟨[],[]⟩
noncomputable def fr3 (iB:Int) (jB:Bool) (gA:List UInt8) (bA:Int) (hA:Int) (iA:Int) (dA:Int) (eA:Int) (aA:List Knot) (fA:Bool) (cA:Int):St U El:=⟨[(1,(.ptr 1 0)),(31,(.int .i64 iB)),(32,(.bool jB))],[(1,(.box 0 [(.str gA),(.int .i64 bA),(.int .i64 hA),(.int .i64 iA),(.int .i64 dA),(.int .i64 eA),(.lst .knot aA),(.bool fA),(.int .i64 cA)]))]⟩
noncomputable def fr4 (gA:List UInt8) (bA:Int) (hA:Int) (iA:Int) (dA:Int) (eA:Int) (aA:List Knot) (fA:Bool) (cA:Int):St U El:=⟨[(1,(.ptr 1 0))],[(1,(.box 0 [(.str gA),(.int .i64 bA),(.int .i64 hA),(.int .i64 iA),(.int .i64 dA),(.int .i64 eA),(.lst .knot aA),(.bool fA),(.int .i64 cA)]))]⟩
noncomputable def sh0 (n:Node) (k1:Y1):R :=
 condB (!(nameB n.nn)) (some ((.bool false),[])) (condB (!((ile (-16777216:Int) n.nx&&ile n.nx (16777216:Int)))) (some ((.bool false),[])) (condB (!((ile (-16777216:Int) n.ny&&ile n.ny (16777216:Int)))) (some ((.bool false),[])) (chk (nle (List.length ([n.ni,n.ng]:List Int)) 90000) (condB (!(!(List.any ([n.ni,n.ng]:List Int) notLev))) (some ((.bool false),[])) (k1 n.nn n.nk n.nx n.ny n.ni n.ng n.nh n.np n.nr)))))
noncomputable def sh1 (gA:List UInt8) (bA:Int) (hA:Int) (iA:Int) (dA:Int) (eA:Int) (aA:List Knot) (fA:Bool) (cA:Int) (k3:Y3):R :=
 condB (bA == (1:Int)) (k3 bA true gA bA hA iA dA eA aA fA cA) (k3 bA (bA == (2:Int)) gA bA hA iA dA eA aA fA cA)
noncomputable def sh2:R :=
 some ((.bool false),[])
noncomputable def sh3 (iB:Int) (jB:Bool) (gA:List UInt8) (bA:Int) (hA:Int) (iA:Int) (dA:Int) (eA:Int) (aA:List Knot) (fA:Bool) (cA:Int) (k2:Y2) (k4:Y4):R :=
 condB jB (condB (ile eA dA) (some ((.bool false),[])) (condB (!(shapeB aA (IntKind.wrap .i64 (eA - dA)))) (some ((.bool false),[])) (condB (bA == (1:Int)) (condB fA (some ((.bool false),[])) (k4 gA bA hA iA dA eA aA fA cA)) (k4 gA bA hA iA dA eA aA fA cA)))) (condB (iB == (3:Int)) (condB (ile dA eA) (condB ((Int.ofNat (List.length aA)) == (0:Int)) (condB (!fA) (some ((.bool (cA == (0:Int))),[])) (some ((.bool false),[]))) (some ((.bool false),[]))) (some ((.bool false),[]))) (k2))
noncomputable def sh4 (gA:List UInt8) (bA:Int) (hA:Int) (iA:Int) (dA:Int) (eA:Int) (aA:List Knot) (fA:Bool) (cA:Int):R :=
 condB (!fA) (some ((.bool (cA == (0:Int))),[])) (chk (inb (IntKind.wrap .i64 ((Int.ofNat (List.length aA)) - (1:Int))) (List.length aA)) (some ((.bool ((ile (0:Int) cA&&ile cA ((List.getD aA (Int.toNat (IntKind.wrap .i64 ((Int.ofNat (List.length aA)) - (1:Int)))) d_knot).ky)))),[])))
noncomputable def ct1:Kont U El:=fun st=>exec X (cdp [1,1] bd) (.seq (some nm2) (.seq none .d (.block (.seq (some nm3) .d (.cond (.seq (some nm4) .d .d) .d)))) .d) st RR (fun _ _=>none) RR
noncomputable def ct2:Kont U El:=fun st=>exec X (cdp [1,1,1] bd) .d st RR (fun _ _=>none) RR
noncomputable def ct3 (Kb2:Kont U El):Kont U El:=fun st=>exec X (cdp [1,1,0,1,0,1] bd) (.cond (.seq (some nm4) .d .d) .d) st (cutK nm2 Kb2) (Eblk 0 (cutK nm2 Kb2) (fun _ _=>none)) RR
noncomputable def ct4 (Kb2:Kont U El):Kont U El:=fun st=>exec X (cdp [1,1,0,1,0,1,0,1] bd) .d st (cutK nm2 Kb2) (Eblk 0 (cutK nm2 Kb2) (fun _ _=>none)) RR
theorem P0 (n):exec X (cdp [] bd) (.seq none .d (.seq (some nm1) .d (.seq (some nm2) (.seq none .d (.block (.seq (some nm3) .d (.cond (.seq (some nm4) .d .d) .d)))) .d))) (fr0 n) RR (fun _ _=>none) RR=sh0 n (fun y0 y1 y2 y3 y4 y5 y6 y7 y8=>(hid ct1) (fr1 y0 y1 y2 y3 y4 y5 y6 y7 y8)):=by kernel_rfl
theorem P1 (gA bA hA iA dA eA aA fA cA):ct1 (fr1 gA bA hA iA dA eA aA fA cA)=sh1 gA bA hA iA dA eA aA fA cA (fun y0 y1 y2 y3 y4 y5 y6 y7 y8 y9 y10=>(hid (ct3 (hid ct2))) (fr3 y0 y1 y2 y3 y4 y5 y6 y7 y8 y9 y10)):=by kernel_rfl
theorem P2:ct2 (fr2)=sh2:=by kernel_rfl
theorem P3 (iB jB gA bA hA iA dA eA aA fA cA) (Kb2:Kont U El):ct3 Kb2 (fr3 iB jB gA bA hA iA dA eA aA fA cA)=sh3 iB jB gA bA hA iA dA eA aA fA cA (Kb2 (fr2)) (fun y0 y1 y2 y3 y4 y5 y6 y7 y8=>(hid (ct4 Kb2)) (fr4 y0 y1 y2 y3 y4 y5 y6 y7 y8)):=by kernel_rfl
theorem P4 (gA bA hA iA dA eA aA fA cA) (Kb2:Kont U El):ct4 Kb2 (fr4 gA bA hA iA dA eA aA fA cA)=sh4 gA bA hA iA dA eA aA fA cA:=by kernel_rfl
noncomputable def f2:R:=sh2
noncomputable def f4 (gA:List UInt8) (bA:Int) (hA:Int) (iA:Int) (dA:Int) (eA:Int) (aA:List Knot) (fA:Bool) (cA:Int):R:=sh4 gA bA hA iA dA eA aA fA cA
noncomputable def f3 (iB:Int) (jB:Bool) (gA:List UInt8) (bA:Int) (hA:Int) (iA:Int) (dA:Int) (eA:Int) (aA:List Knot) (fA:Bool) (cA:Int):R:=sh3 iB jB gA bA hA iA dA eA aA fA cA f2 f4
noncomputable def f1 (gA:List UInt8) (bA:Int) (hA:Int) (iA:Int) (dA:Int) (eA:Int) (aA:List Knot) (fA:Bool) (cA:Int):R:=sh1 gA bA hA iA dA eA aA fA cA f3
noncomputable def f0 (n:Node):R:=sh0 n f1
theorem T2:(hid ct2) (fr2)=f2:=by
 refine (congrFun (hid_eq _) _).trans <| (P2).trans ?_
 show _=sh2
 rfl
theorem T4 (gA bA hA iA dA eA aA fA cA):(hid (ct4 (hid ct2))) (fr4 gA bA hA iA dA eA aA fA cA)=f4 gA bA hA iA dA eA aA fA cA:=by
 refine (congrFun (hid_eq _) _).trans <| (P4 gA bA hA iA dA eA aA fA cA (hid ct2)).trans ?_
 show _=sh4 gA bA hA iA dA eA aA fA cA
 rfl
theorem T3 (iB jB gA bA hA iA dA eA aA fA cA):(hid (ct3 (hid ct2))) (fr3 iB jB gA bA hA iA dA eA aA fA cA)=f3 iB jB gA bA hA iA dA eA aA fA cA:=by
 refine (congrFun (hid_eq _) _).trans <| (P3 iB jB gA bA hA iA dA eA aA fA cA (hid ct2)).trans ?_
 show _=sh3 iB jB gA bA hA iA dA eA aA fA cA f2 f4
 simp only [T2,T4]
theorem T1 (gA bA hA iA dA eA aA fA cA):(hid ct1) (fr1 gA bA hA iA dA eA aA fA cA)=f1 gA bA hA iA dA eA aA fA cA:=by
 refine (congrFun (hid_eq _) _).trans <| (P1 gA bA hA iA dA eA aA fA cA).trans ?_
 show _=sh1 gA bA hA iA dA eA aA fA cA f3
 simp only [T3]
theorem T0 (n):exec X bd (.seq none .d (.seq (some nm1) .d (.seq (some nm2) (.seq none .d (.block (.seq (some nm3) .d (.cond (.seq (some nm4) .d .d) .d)))) .d))) (fr0 n) RR (fun _ _=>none) RR=f0 n:=by
 refine (P0 n).trans ?_
 show _=sh0 n f1
 simp only [T1]
theorem run (n):runFn X bd (.seq none .d (.seq (some nm1) .d (.seq (some nm2) (.seq none .d (.block (.seq (some nm3) .d (.cond (.seq (some nm4) .d .d) .d)))) .d))) nmR [2] [] [(.agg [(.str n.nn),(.int .i64 n.nk),(.int .i64 n.nx),(.int .i64 n.ny),(.int .i64 n.ni),(.int .i64 n.ng),(.lst .knot n.nh),(.bool n.np),(.int .i64 n.nr)])]=f0 n:=T0 n
theorem f4_eq (nn:List UInt8) (nk nx ny ni ng:Int) (nh:List Knot) (np:Bool) (nr d:Int) (h:shapeB nh d=true):f4 nn nk nx ny ni ng nh np nr=outB (bif np then ile 0 nr&&ile nr (lastK nh).ky else (nr == 0)):=by
 show sh4 nn nk nx ny ni ng nh np nr=_
 unfold sh4 lastK
 obtain ⟨h1,h2⟩:=shape_last h
 rw [h1,h2,toNat_nat]
 cases np<;>rfl
theorem f3_eq (x:Int) (b:Bool) (nn:List UInt8) (nk nx ny ni ng:Int) (nh:List Knot) (np:Bool) (nr:Int):f3 x b nn nk nx ny ni ng nh np nr =
    outB (bif b then !(ile ng ni)&&(shapeB nh (IntKind.wrap .i64 (ng - ni))&&(!((nk == 1)&&np)&&(bif np then ile 0 nr&&ile nr (lastK nh).ky else (nr == 0))))
      else (x == 3)&&(ile ni ng&&((Int.ofNat nh.length == 0)&&(!np&&(nr == 0))))):=by
  show sh3 x b nn nk nx ny ni ng nh np nr f2 f4=_
  unfold sh3
  cases b with
  | false =>
    have:f2=outB false:=rfl
    rw [this]
    simp only [condF,oB,cAnd,cond_false]
  | true =>
    simp only [condT,cond_true,oB]
    cases hs:shapeB nh (IntKind.wrap .i64 (ng - ni)) with
    | false=>cases ile ng ni<;>rfl
    | true =>
      rw [f4_eq _ _ _ _ _ _ _ _ _ _ hs]
      cases ile ng ni<;>cases (nk == 1)<;>cases np<;>rfl
theorem f0_eq (n:Node):f0 n=outB (nodeB n):=by
  show sh0 n f1=_
  unfold sh0 nodeB
  rw [nleT (show ([n.ni,n.ng]:List Int).length≤90000 by simp)]
  have h1:f1 n.nn n.nk n.nx n.ny n.ni n.ng n.nh n.np n.nr=outB (bif n.nk == 3 then ile n.ni n.ng&&((Int.ofNat n.nh.length == 0)&&(!n.np&&(n.nr == 0)))
     else bif (n.nk == 1||n.nk == 2) then !(ile n.ng n.ni)&&(shapeB n.nh (IntKind.wrap .i64 (n.ng - n.ni))&&(bif n.np then (n.nk == 2)&&(ile 0 n.nr&&ile n.nr (lastK n.nh).ky) else (n.nr == 0)))
     else false):=by
    show sh1 n.nn n.nk n.nx n.ny n.ni n.ng n.nh n.np n.nr f3=_
    unfold sh1
    rw [f3_eq,f3_eq]
    by_cases e1:n.nk=1
    · rw [e1]
      cases ile n.ng n.ni<;>cases shapeB n.nh (IntKind.wrap .i64 (n.ng - n.ni))<;>cases n.np<;>rfl
    · by_cases e2:n.nk=2
      · rw [e2]
        cases ile n.ng n.ni<;>cases shapeB n.nh (IntKind.wrap .i64 (n.ng - n.ni))<;>cases n.np<;>rfl
      · rw [show (n.nk == 1)=false by simpa using e1,show (n.nk == 2)=false by simpa using e2]
        cases n.nk == 3<;>rfl
  rw [h1]
  simp only [List.any_cons,List.any_nil,Bool.or_false,notLev_inR,oB,chkT,cNot,Bool.not_not]
  simp only [show ∀ m x,(ile (-m) x&&ile x m)=inR m x from fun _ _=>rfl,← Bool.not_and]
  unfold inR
  cases nameB n.nn<;>simp only [cAnd,condT,condF,cond_true,Bool.true_and,Bool.false_and,Bool.not_not,Bool.and_assoc,cNot]
theorem ok:CtxOk Tryz.prog X:=ctxOk tab (spC isname.spOk (spC between.spOk (spC level.spOk (spC shaped.spOk spN)))) dpN
theorem okM:MOk Tryz.prog X:=fun g sp h=>by cases h
theorem spec (n:Node):CallSpec Tryz.prog E 136 [(.agg [(.str n.nn),(.int .i64 n.nk),(.int .i64 n.nx),(.int .i64 n.ny),(.int .i64 n.ni),(.int .i64 n.ng),(.lst .knot n.nh),(.bool n.np),(.int .i64 n.nr)])] (.bool (nodeB n)) [] :=
 rfs ok okM Tryz.call136 Tryz.func136 ((run n).trans (f0_eq n))
noncomputable def sp:Sp U El:=fun args k=>match args with
 | [.agg [.str n_nn,.int .i64 n_nk,.int .i64 n_nx,.int .i64 n_ny,.int .i64 n_ni,.int .i64 n_ng,.lst .knot n_nh,.bool n_np,.int .i64 n_nr]]=>k (.bool (nodeB (⟨n_nn,n_nk,n_nx,n_ny,n_ni,n_ng,n_nh,n_np,n_nr⟩:Node))) []
 | _=>none
theorem spOk:SpOk Tryz.prog E 136 sp:=⟨fun vs=>by unfold sp;split;exact ⟨some (_,_),fun _=>rfl⟩;exact ⟨none,fun _=>rfl⟩,fun vs k r h=>by unfold sp at h;split at h;exact ⟨_,_,spec ⟨_,_,_,_,_,_,_,_,_⟩,h⟩;cases h⟩
end rightNode
namespace rrightNode
noncomputable def bd:Code:=(Tryz.f82.body).getD .skip
noncomputable def X:Ctx U El:=⟨E,tds,zeros,eqs,specOf [(123,risname.sp),(124,rposition.sp),(125,rlevel.sp),(126,rshape.sp)],100000,105,dspecOf [],fun _=>none,fun _=>none⟩
noncomputable def nmR:Norm U:=⟨[],[2],[],[],[],[],[]⟩
noncomputable def RR:Kont U El:=fun st=>normK nmR st (retFin [2] [])
noncomputable def nm1:Norm U:=⟨[],[1],[1],[],[],[],[(1,6,.knot)]⟩
noncomputable def nm2:Norm U:=⟨[],[],[],[],[],[],[]⟩
noncomputable def nm3:Norm U:=⟨[],[1,58],[1],[],[],[],[(1,6,.knot)]⟩
noncomputable def nm4:Norm U:=⟨[],[1],[1],[],[],[],[(1,6,.knot)]⟩
abbrev Y1:=(List UInt8)→Int→Int→Int→Int→Int→(List Knot)→Bool→Int→R
abbrev Y2:=R
abbrev Y3:=Bool→(List UInt8)→Int→Int→Int→Int→Int→(List Knot)→Bool→Int→R
abbrev Y4:=(List UInt8)→Int→Int→Int→Int→Int→(List Knot)→Bool→Int→R
noncomputable def fr0 (n:Node):St U El:=⟨[(0,(.agg [(.str n.nn),(.int .i64 n.nk),(.int .i64 n.nx),(.int .i64 n.ny),(.int .i64 n.ni),(.int .i64 n.ng),(.lst .knot n.nh),(.bool n.np),(.int .i64 n.nr)]))],[]⟩
noncomputable def fr1 (gA:List UInt8) (bA:Int) (hA:Int) (iA:Int) (dA:Int) (eA:Int) (aA:List Knot) (fA:Bool) (cA:Int):St U El:=⟨[(1,(.ptr 1 0))],[(1,(.box 0 [(.str gA),(.int .i64 bA),(.int .i64 hA),(.int .i64 iA),(.int .i64 dA),(.int .i64 eA),(.lst .knot aA),(.bool fA),(.int .i64 cA)]))]⟩
noncomputable def fr2:St U El:=⟨[],[]⟩
noncomputable def fr3 (kB:Bool) (gA:List UInt8) (bA:Int) (hA:Int) (iA:Int) (dA:Int) (eA:Int) (aA:List Knot) (fA:Bool) (cA:Int):St U El:=⟨[(1,(.ptr 1 0)),(58,(.bool kB))],[(1,(.box 0 [(.str gA),(.int .i64 bA),(.int .i64 hA),(.int .i64 iA),(.int .i64 dA),(.int .i64 eA),(.lst .knot aA),(.bool fA),(.int .i64 cA)]))]⟩
noncomputable def fr4 (gA:List UInt8) (bA:Int) (hA:Int) (iA:Int) (dA:Int) (eA:Int) (aA:List Knot) (fA:Bool) (cA:Int):St U El:=⟨[(1,(.ptr 1 0))],[(1,(.box 0 [(.str gA),(.int .i64 bA),(.int .i64 hA),(.int .i64 iA),(.int .i64 dA),(.int .i64 eA),(.lst .knot aA),(.bool fA),(.int .i64 cA)]))]⟩
noncomputable def sh0 (n:Node) (k1:Y1):R :=
 condB (!(nameB n.nn)) (some ((.bool false),[])) (condB (!(inR 16777216 n.nx)) (some ((.bool false),[])) (condB (!(inR 16777216 n.ny)) (some ((.bool false),[])) (condB (!(inR 4194304 n.ni)) (some ((.bool false),[])) (condB (!(inR 4194304 n.ng)) (some ((.bool false),[])) (k1 n.nn n.nk n.nx n.ny n.ni n.ng n.nh n.np n.nr)))))
noncomputable def sh1 (gA:List UInt8) (bA:Int) (hA:Int) (iA:Int) (dA:Int) (eA:Int) (aA:List Knot) (fA:Bool) (cA:Int) (k3:Y3):R :=
 condB (bA == (3:Int)) (condB (ile dA eA) (condB ((Int.ofNat (List.length aA)) == (0:Int)) (condB (!fA) (some ((.bool (cA == (0:Int))),[])) (some ((.bool false),[]))) (some ((.bool false),[]))) (some ((.bool false),[]))) (condB (bA == (1:Int)) (k3 true gA bA hA iA dA eA aA fA cA) (k3 (bA == (2:Int)) gA bA hA iA dA eA aA fA cA))
noncomputable def sh2:R :=
 some ((.bool false),[])
noncomputable def sh3 (kB:Bool) (gA:List UInt8) (bA:Int) (hA:Int) (iA:Int) (dA:Int) (eA:Int) (aA:List Knot) (fA:Bool) (cA:Int) (k2:Y2) (k4:Y4):R :=
 condB kB (condB (ile eA dA) (some ((.bool false),[])) (condB (!(shapeB aA (IntKind.wrap .i64 (eA - dA)))) (some ((.bool false),[])) (k4 gA bA hA iA dA eA aA fA cA))) (k2)
noncomputable def sh4 (gA:List UInt8) (bA:Int) (hA:Int) (iA:Int) (dA:Int) (eA:Int) (aA:List Knot) (fA:Bool) (cA:Int):R :=
 condB (!fA) (some ((.bool (cA == (0:Int))),[])) (condB (bA == (2:Int)) (condB (ile (0:Int) cA) (chk (inb (IntKind.wrap .i64 ((Int.ofNat (List.length aA)) - (1:Int))) (List.length aA)) (some ((.bool (ile cA ((List.getD aA (Int.toNat (IntKind.wrap .i64 ((Int.ofNat (List.length aA)) - (1:Int)))) d_knot).ky))),[]))) (some ((.bool false),[]))) (some ((.bool false),[])))
noncomputable def ct1:Kont U El:=fun st=>exec X (cdp [1,1] bd) (.seq (some nm2) (.seq none .d (.block (.seq none .d (.cond .d (.seq (some nm3) .d (.cond (.seq (some nm4) .d .d) .d)))))) .d) st RR (fun _ _=>none) RR
noncomputable def ct2:Kont U El:=fun st=>exec X (cdp [1,1,1] bd) .d st RR (fun _ _=>none) RR
noncomputable def ct3 (Kb2:Kont U El):Kont U El:=fun st=>exec X (cdp [1,1,0,1,0,1,1,1] bd) (.cond (.seq (some nm4) .d .d) .d) st (cutK nm2 Kb2) (Eblk 0 (cutK nm2 Kb2) (fun _ _=>none)) RR
noncomputable def ct4 (Kb2:Kont U El):Kont U El:=fun st=>exec X (cdp [1,1,0,1,0,1,1,1,0,1] bd) .d st (cutK nm2 Kb2) (Eblk 0 (cutK nm2 Kb2) (fun _ _=>none)) RR
theorem P0 (n):exec X (cdp [] bd) (.seq none .d (.seq (some nm1) .d (.seq (some nm2) (.seq none .d (.block (.seq none .d (.cond .d (.seq (some nm3) .d (.cond (.seq (some nm4) .d .d) .d)))))) .d))) (fr0 n) RR (fun _ _=>none) RR=sh0 n (fun y0 y1 y2 y3 y4 y5 y6 y7 y8=>(hid ct1) (fr1 y0 y1 y2 y3 y4 y5 y6 y7 y8)):=by kernel_rfl
theorem P1 (gA bA hA iA dA eA aA fA cA):ct1 (fr1 gA bA hA iA dA eA aA fA cA)=sh1 gA bA hA iA dA eA aA fA cA (fun y0 y1 y2 y3 y4 y5 y6 y7 y8 y9=>(hid (ct3 (hid ct2))) (fr3 y0 y1 y2 y3 y4 y5 y6 y7 y8 y9)):=by kernel_rfl
theorem P2:ct2 (fr2)=sh2:=by kernel_rfl
theorem P3 (kB gA bA hA iA dA eA aA fA cA) (Kb2:Kont U El):ct3 Kb2 (fr3 kB gA bA hA iA dA eA aA fA cA)=sh3 kB gA bA hA iA dA eA aA fA cA (Kb2 (fr2)) (fun y0 y1 y2 y3 y4 y5 y6 y7 y8=>(hid (ct4 Kb2)) (fr4 y0 y1 y2 y3 y4 y5 y6 y7 y8)):=by kernel_rfl
theorem P4 (gA bA hA iA dA eA aA fA cA) (Kb2:Kont U El):ct4 Kb2 (fr4 gA bA hA iA dA eA aA fA cA)=sh4 gA bA hA iA dA eA aA fA cA:=by kernel_rfl
noncomputable def f2:R:=sh2
noncomputable def f4 (gA:List UInt8) (bA:Int) (hA:Int) (iA:Int) (dA:Int) (eA:Int) (aA:List Knot) (fA:Bool) (cA:Int):R:=sh4 gA bA hA iA dA eA aA fA cA
noncomputable def f3 (kB:Bool) (gA:List UInt8) (bA:Int) (hA:Int) (iA:Int) (dA:Int) (eA:Int) (aA:List Knot) (fA:Bool) (cA:Int):R:=sh3 kB gA bA hA iA dA eA aA fA cA f2 f4
noncomputable def f1 (gA:List UInt8) (bA:Int) (hA:Int) (iA:Int) (dA:Int) (eA:Int) (aA:List Knot) (fA:Bool) (cA:Int):R:=sh1 gA bA hA iA dA eA aA fA cA f3
noncomputable def f0 (n:Node):R:=sh0 n f1
theorem T2:(hid ct2) (fr2)=f2:=by
 refine (congrFun (hid_eq _) _).trans <| (P2).trans ?_
 show _=sh2
 rfl
theorem T4 (gA bA hA iA dA eA aA fA cA):(hid (ct4 (hid ct2))) (fr4 gA bA hA iA dA eA aA fA cA)=f4 gA bA hA iA dA eA aA fA cA:=by
 refine (congrFun (hid_eq _) _).trans <| (P4 gA bA hA iA dA eA aA fA cA (hid ct2)).trans ?_
 show _=sh4 gA bA hA iA dA eA aA fA cA
 rfl
theorem T3 (kB gA bA hA iA dA eA aA fA cA):(hid (ct3 (hid ct2))) (fr3 kB gA bA hA iA dA eA aA fA cA)=f3 kB gA bA hA iA dA eA aA fA cA:=by
 refine (congrFun (hid_eq _) _).trans <| (P3 kB gA bA hA iA dA eA aA fA cA (hid ct2)).trans ?_
 show _=sh3 kB gA bA hA iA dA eA aA fA cA f2 f4
 simp only [T2,T4]
theorem T1 (gA bA hA iA dA eA aA fA cA):(hid ct1) (fr1 gA bA hA iA dA eA aA fA cA)=f1 gA bA hA iA dA eA aA fA cA:=by
 refine (congrFun (hid_eq _) _).trans <| (P1 gA bA hA iA dA eA aA fA cA).trans ?_
 show _=sh1 gA bA hA iA dA eA aA fA cA f3
 simp only [T3]
theorem T0 (n):exec X bd (.seq none .d (.seq (some nm1) .d (.seq (some nm2) (.seq none .d (.block (.seq none .d (.cond .d (.seq (some nm3) .d (.cond (.seq (some nm4) .d .d) .d)))))) .d))) (fr0 n) RR (fun _ _=>none) RR=f0 n:=by
 refine (P0 n).trans ?_
 show _=sh0 n f1
 simp only [T1]
theorem run (n):runFn X bd (.seq none .d (.seq (some nm1) .d (.seq (some nm2) (.seq none .d (.block (.seq none .d (.cond .d (.seq (some nm3) .d (.cond (.seq (some nm4) .d .d) .d)))))) .d))) nmR [2] [] [(.agg [(.str n.nn),(.int .i64 n.nk),(.int .i64 n.nx),(.int .i64 n.ny),(.int .i64 n.ni),(.int .i64 n.ng),(.lst .knot n.nh),(.bool n.np),(.int .i64 n.nr)])]=f0 n:=T0 n
theorem f4_eq (nn:List UInt8) (nk nx ny ni ng:Int) (nh:List Knot) (np:Bool) (nr d:Int) (h:shapeB nh d=true):f4 nn nk nx ny ni ng nh np nr=outB (bif np then (nk == 2)&&(ile 0 nr&&ile nr (lastK nh).ky) else (nr == 0)):=by
 show sh4 nn nk nx ny ni ng nh np nr=_
 unfold sh4 lastK
 obtain ⟨h1,h2⟩:=shape_last h
 rw [h1,h2,toNat_nat]
 cases np
 ·rfl
 ·simp only [Bool.not_true,condF,chkT,oB,cAnd,cond_true]
theorem f3_eq (b:Bool) (nn:List UInt8) (nk nx ny ni ng:Int) (nh:List Knot) (np:Bool) (nr:Int):f3 b nn nk nx ny ni ng nh np nr =
    outB (bif b then !(ile ng ni)&&(shapeB nh (IntKind.wrap .i64 (ng - ni))&&(bif np then (nk == 2)&&(ile 0 nr&&ile nr (lastK nh).ky) else (nr == 0))) else false):=by
  show sh3 b nn nk nx ny ni ng nh np nr f2 f4=_
  unfold sh3
  cases b with
  | false=>rfl
  | true =>
    simp only [condT,cond_true,oB]
    cases hs:shapeB nh (IntKind.wrap .i64 (ng - ni)) with
    | false=>cases ile ng ni<;>rfl
    | true =>
      rw [f4_eq _ _ _ _ _ _ _ _ _ _ hs]
      cases ile ng ni<;>rfl
theorem f0_eq (n:Node):f0 n=outB (nodeB n):=by
  show sh0 n f1=_
  unfold sh0 nodeB
  have h1:f1 n.nn n.nk n.nx n.ny n.ni n.ng n.nh n.np n.nr=outB (bif n.nk == 3 then ile n.ni n.ng&&((Int.ofNat n.nh.length == 0)&&(!n.np&&(n.nr == 0)))
     else bif (n.nk == 1||n.nk == 2) then !(ile n.ng n.ni)&&(shapeB n.nh (IntKind.wrap .i64 (n.ng - n.ni))&&(bif n.np then (n.nk == 2)&&(ile 0 n.nr&&ile n.nr (lastK n.nh).ky) else (n.nr == 0)))
     else false):=by
    show sh1 n.nn n.nk n.nx n.ny n.ni n.ng n.nh n.np n.nr f3=_
    unfold sh1
    rw [f3_eq,f3_eq]
    simp only [oB,cAnd]
    cases n.nk == 3
    · cases n.nk == 1<;>rfl
    · rfl
  rw [h1]
  simp only [oB,cNot,cAnd]
theorem ok:CtxOk Tryz.prog X:=ctxOk tab (spC risname.spOk (spC rposition.spOk (spC rlevel.spOk (spC rshape.spOk spN)))) dpN
theorem okM:MOk Tryz.prog X:=fun g sp h=>by cases h
theorem spec (n:Node):CallSpec Tryz.prog E 82 [(.agg [(.str n.nn),(.int .i64 n.nk),(.int .i64 n.nx),(.int .i64 n.ny),(.int .i64 n.ni),(.int .i64 n.ng),(.lst .knot n.nh),(.bool n.np),(.int .i64 n.nr)])] (.bool (nodeB n)) [] :=
 rfs ok okM Tryz.call82 Tryz.func82 ((run n).trans (f0_eq n))
noncomputable def sp:Sp U El:=fun args k=>match args with
 | [.agg [.str n_nn,.int .i64 n_nk,.int .i64 n_nx,.int .i64 n_ny,.int .i64 n_ni,.int .i64 n_ng,.lst .knot n_nh,.bool n_np,.int .i64 n_nr]]=>k (.bool (nodeB (⟨n_nn,n_nk,n_nx,n_ny,n_ni,n_ng,n_nh,n_np,n_nr⟩:Node))) []
 | _=>none
theorem spOk:SpOk Tryz.prog E 82 sp:=⟨fun vs=>by unfold sp;split;exact ⟨some (_,_),fun _=>rfl⟩;exact ⟨none,fun _=>rfl⟩,fun vs k r h=>by unfold sp at h;split at h;exact ⟨_,_,spec ⟨_,_,_,_,_,_,_,_,_⟩,h⟩;cases h⟩
end rrightNode
noncomputable def eqK (x y:Knot):Bool:=(x.kx == y.kx)&&((x.ky == y.ky)&&true)
noncomputable def eqLT:List Knot→List Knot→Bool
 | [],[]=>true
 | x :: a,y :: b=>eqK x y&&eqLT a b
 | _,_=>false
noncomputable def eqT (a b:List Knot):Bool:=bif (Int.ofNat a.length) != (Int.ofNat b.length) then false else eqLT a b
theorem eqLT_self:∀ a,eqLT a a=true:=by
 intro a
 induction a with
 | nil=>rfl
 | cons x a ih=>simp [eqLT,eqK,ih]
theorem eqT_self (a:List Knot):eqT a a=true:=by unfold eqT; rw [eqLT_self]; simp
theorem eqT_nil (a:List Knot):eqT a []=(Int.ofNat a.length == 0):=by
 unfold eqT
 cases a with
 | nil=>rfl
 | cons x a=>simp [eqLT]; omega
namespace equalT
noncomputable def bd:Code:=(Tryz.f174.body).getD .skip
noncomputable def X:Ctx U El:=⟨E,tds,zeros,eqs,specOf [],100000,26,dspecOf [],fun _=>none,fun _=>none⟩
noncomputable def nmR:Norm U:=⟨[],[4],[],[],[],[],[]⟩
noncomputable def RR:Kont U El:=fun st=>normK nmR st (retFin [4] [])
noncomputable def nm1:Norm U:=⟨[],[],[],[],[],[],[]⟩
noncomputable def nm2:Norm U:=⟨[],[0,1,12,13],[],[],[],[],[]⟩
abbrev Y1:=R
abbrev Y2:=(List Knot)→(List Knot)→Int→Int→R
noncomputable def fr0 (a:List Knot) (b:List Knot):St U El:=⟨[(0,(.lst .knot a)),(1,(.lst .knot b))],[]⟩
noncomputable def fr1:St U El:=⟨[],[]⟩
noncomputable def fr2 (fB:List Knot) (gB:List Knot) (hB:Int) (eB:Int):St U El:=⟨[(0,(.lst .knot fB)),(1,(.lst .knot gB)),(12,(.int .i64 hB)),(13,(.int .i64 eB))],[]⟩
noncomputable def sh0 (a:List Knot) (b:List Knot) (k2:Y2):R :=
 condB ((Int.ofNat (List.length a)) != (Int.ofNat (List.length b))) (some ((.bool false),[])) (k2 a b (Int.ofNat (List.length a)) (0:Int))
noncomputable def sh1:R :=
 some ((.bool true),[])
noncomputable def sh2 (fB:List Knot) (gB:List Knot) (hB:Int) (eB:Int) (k1:Y1) (k2:Y2):R :=
 condB (ilt eB hB) (chk (inb eB (List.length fB)) (chk (inb eB (List.length gB)) (condB (!(((List.getD fB (Int.toNat eB) d_knot).kx == (List.getD gB (Int.toNat eB) d_knot).kx)&&(((List.getD fB (Int.toNat eB) d_knot).ky == (List.getD gB (Int.toNat eB) d_knot).ky)&&true))) (some ((.bool false),[])) (k2 fB gB hB (IntKind.wrap .i64 (eB+(1:Int))))))) (k1)
noncomputable def it2 (Kb1:Kont U El) (n:Nat):Kont U El:=iter nm2 (fun st' K'=>exec X (cdp [1,1,0,1,0,0] bd) .d st' K' (Eblk 0 (cutK nm1 Kb1) (fun _ _=>none)) RR) n
noncomputable def ct1:Kont U El:=fun st=>exec X (cdp [1,1,1] bd) .d st RR (fun _ _=>none) RR
theorem P0 (a b):exec X (cdp [] bd) (.seq none .d (.seq none .d (.seq (some nm1) (.seq none .d (.block (.loop nm2 .d))) .d))) (fr0 a b) RR (fun _ _=>none) RR=sh0 a b (fun y0 y1 y2 y3=>(hid (it2 (hid ct1) 100000)) (fr2 y0 y1 y2 y3)):=by kernel_rfl
theorem P1:ct1 (fr1)=sh1:=by kernel_rfl
theorem P2 (fB gB hB eB) (Kb1 Kb2:Kont U El):exec X (cdp [1,1,0,1,0,0] bd) .d (fr2 fB gB hB eB) (cutK nm2 Kb2) (Eblk 0 (cutK nm1 Kb1) (fun _ _=>none)) RR=sh2 fB gB hB eB (Kb1 (fr1)) (fun y0 y1 y2 y3=>Kb2 (fr2 y0 y1 y2 y3)):=by kernel_rfl
noncomputable def f1:R:=sh1
noncomputable def f2:Nat→Y2
 | 0=>fun _ _ _ _=>none
 | n+1=>fun fB gB hB eB=>sh2 fB gB hB eB f1 (f2 n)
noncomputable def f0 (a:List Knot) (b:List Knot):R:=sh0 a b (f2 100000)
theorem T1:(hid ct1) (fr1)=f1:=by
 refine (congrFun (hid_eq _) _).trans <| (P1).trans ?_
 show _=sh1
 rfl
theorem T2:∀ (n:Nat),∀ fB gB hB eB,it2 (hid ct1) n (fr2 fB gB hB eB)=f2 n fB gB hB eB:=by
  intro n
  induction n with
  | zero=>intros; rfl
  | succ n ih =>
    intro fB gB hB eB
    refine (P2 fB gB hB eB (hid ct1) (it2 (hid ct1) n)).trans ?_
    show _=sh2 fB gB hB eB f1 (f2 n)
    simp only [T1,ih]
theorem H2 (fB gB hB eB):hid (it2 (hid ct1) 100000) (fr2 fB gB hB eB)=f2 100000 fB gB hB eB:=(congrFun (hid_eq _) _).trans (T2 100000 fB gB hB eB)
theorem T0 (a b):exec X bd (.seq none .d (.seq none .d (.seq (some nm1) (.seq none .d (.block (.loop nm2 .d))) .d))) (fr0 a b) RR (fun _ _=>none) RR=f0 a b:=by
 refine (P0 a b).trans ?_
 show _=sh0 a b (f2 100000)
 simp only [H2]
theorem run (a b):runFn X bd (.seq none .d (.seq none .d (.seq (some nm1) (.seq none .d (.block (.loop nm2 .d))) .d))) nmR [4] [] [(.lst .knot a),(.lst .knot b)]=f0 a b:=T0 a b
theorem loop (b:List Knot):∀ (n i:Nat) (a:List Knot),a.length=b.length→a.length≤90000→a.length < n+i→i≤a.length→f2 n a b (Int.ofNat a.length) (i:Int)=outB (eqLT (a.drop i) (b.drop i)):=by
  intro n
  induction n with
  | zero=>intro i a h1 h2 h3 h4; omega
  | succ n ih =>
    intro i a h1 h2 h3 h4
    show sh2 a b (Int.ofNat a.length) (i:Int) f1 (f2 n)=_
    unfold sh2
    by_cases hi:i < a.length
    · have hj : i < b.length := by omega
      rw [iltT (by simp; omega),inbT hi,inbT hj,toNat_nat,getD_lt hi,getD_lt hj,drop_lt hi,drop_lt hj,wrapS i (by omega),ih (i+1) a h1 h2 (by omega) hi]
      simp only [condT,chkT,eqLT]
      show condB (!(eqK a[i] b[i])) (outB false) _=_
      cases eqK a[i] b[i]<;>rfl
    · have e1 : i = a.length := by omega
      subst e1
      rw [iltF (by simp),List.drop_length,h1,List.drop_length]
      rfl
theorem f0_eq (a b:List Knot) (h:nle (List.length a) 90000=true):f0 a b=outB (eqT a b):=by
 show sh0 a b (f2 100000)=_
 unfold sh0 eqT
 by_cases e:a.length=b.length
 ·rw [show (Int.ofNat a.length != Int.ofNat b.length)=false by simp [e]]
  exact loop b 100000 0 a e (nleI h) (by have:=nleI h; omega) (by omega)
 ·rw [show (Int.ofNat a.length != Int.ofNat b.length)=true by simp; omega]
  rfl
theorem ok:CtxOk Tryz.prog X:=ctxOk tab spN dpN
theorem okM:MOk Tryz.prog X:=fun g sp h=>by cases h
theorem spec (a:List Knot) (b:List Knot) (h:(nle (List.length a) 90000)=true):CallSpec Tryz.prog E 174 [(.lst .knot a),(.lst .knot b)] (.bool (eqT a b)) [] :=
 rfs ok okM Tryz.call174 Tryz.func174 ((run a b).trans (f0_eq a b h))
noncomputable def sp:Sp U El:=fun args k=>match args with
 | [.lst .knot a,.lst .knot b]=>chk (nle (List.length a) 90000) (k (.bool (eqT a b)) [])
 | _=>none
theorem spOk:SpOk Tryz.prog E 174 sp:=⟨fun vs=>by unfold sp;split;exact det_c _ _ _;exact ⟨none,fun _=>rfl⟩,fun vs k r h=>by unfold sp at h;split at h;(obtain ⟨h1,h2⟩:=chk_some h;exact ⟨_,_,spec _ _ h1,h2⟩);cases h⟩
end equalT
noncomputable def sameK (a b:Lnk):Bool:=(a.ln == b.ln)&&((a.lf == b.lf)&&((a.lt == b.lt)&&((a.lk == b.lk)&&((a.ll == b.ll)&&((a.lu == b.lu)&&((a.ld == b.ld)&&((a.lc == b.lc)&&((a.lw == b.lw)&&((a.lh == b.lh)&&eqT a.lv b.lv)))))))))
noncomputable def plainK (l:Lnk):Lnk :=
 bif l.lk == 1 then ⟨l.ln,l.lf,l.lt,l.lk,l.ll,l.lu,l.ld,l.lc,0,0,[]⟩ else bif l.lk == 2 then ⟨l.ln,l.lf,l.lt,l.lk,0,l.lu,0,[],l.lw,0,[]⟩
 else bif l.lk == 3 then ⟨l.ln,l.lf,l.lt,l.lk,0,l.lu,0,[],l.lw,l.lh,[]⟩ else bif l.lk == 4 then ⟨l.ln,l.lf,l.lt,l.lk,0,l.lu,l.ld,[],0,0,l.lv⟩ else ⟨l.ln,l.lf,l.lt,l.lk,0,l.lu,0,[],0,0,[]⟩
noncomputable def linkB (l:Lnk):Bool :=
  nameB l.ln&&(nameB l.lf&&(nameB l.lt&&(!(l.lf == l.lt)&&(inR 4194304 l.lu&&(inR 4194304 l.ld &&
    (bif l.lk == 1 then (ile 1 l.ll&&ile l.ll 16777216)&&(nameB l.lc&&((l.lw == 0)&&((l.lh == 0)&&(Int.ofNat l.lv.length == 0))))
     else bif l.lk == 2 then (l.ll == 0)&&((l.ld == 0)&&((l.lc == [])&&((ile 1 l.lw&&ile l.lw 1048576)&&((l.lh == 0)&&(Int.ofNat l.lv.length == 0)))))
     else bif l.lk == 3 then (l.ll == 0)&&((l.ld == 0)&&((l.lc == [])&&((ile 1 l.lw&&ile l.lw 32768)&&((ile 1 l.lh&&ile l.lh 32768)&&(Int.ofNat l.lv.length == 0)))))
     else bif l.lk == 4 then (l.ll == 0)&&(ilt l.ld l.lu&&((l.lc == [])&&((l.lw == 0)&&((l.lh == 0)&&curveB l.lv))))
     else false))))))
namespace sameLink
noncomputable def bd:Code:=(Tryz.f152.body).getD .skip
noncomputable def X:Ctx U El:=⟨E,tds,zeros,eqs,specOf [(174,equalT.sp)],100000,80,dspecOf [],fun _=>none,fun _=>none⟩
noncomputable def nmR:Norm U:=⟨[],[4],[],[],[],[],[]⟩
noncomputable def RR:Kont U El:=fun st=>normK nmR st (retFin [4] [])
noncomputable def fr0 (a:Lnk) (b:Lnk):St U El:=⟨[(0,(.agg [(.str a.ln),(.str a.lf),(.str a.lt),(.int .i64 a.lk),(.int .i64 a.ll),(.int .i64 a.lu),(.int .i64 a.ld),(.str a.lc),(.int .i64 a.lw),(.int .i64 a.lh),(.lst .knot a.lv)])),(1,(.agg [(.str b.ln),(.str b.lf),(.str b.lt),(.int .i64 b.lk),(.int .i64 b.ll),(.int .i64 b.lu),(.int .i64 b.ld),(.str b.lc),(.int .i64 b.lw),(.int .i64 b.lh),(.lst .knot b.lv)]))],[]⟩
noncomputable def sh0 (a:Lnk) (b:Lnk):R :=
 condB (a.ln == b.ln) (condB (a.lf == b.lf) (condB (a.lt == b.lt) (condB (a.lk == b.lk) (condB (a.ll == b.ll) (condB (a.lu == b.lu) (condB (a.ld == b.ld) (condB (a.lc == b.lc) (condB (a.lw == b.lw) (condB (a.lh == b.lh) (chk (nle (List.length a.lv) 90000) (some ((.bool (eqT a.lv b.lv)),[]))) (some ((.bool false),[]))) (some ((.bool false),[]))) (some ((.bool false),[]))) (some ((.bool false),[]))) (some ((.bool false),[]))) (some ((.bool false),[]))) (some ((.bool false),[]))) (some ((.bool false),[]))) (some ((.bool false),[]))) (some ((.bool false),[]))
theorem P0 (a b):exec X (cdp [] bd) .d (fr0 a b) RR (fun _ _=>none) RR=sh0 a b:=by kernel_rfl
noncomputable def f0 (a:Lnk) (b:Lnk):R:=sh0 a b
theorem T0 (a b):exec X bd .d (fr0 a b) RR (fun _ _=>none) RR=f0 a b:=by
 refine (P0 a b).trans ?_
 show _=sh0 a b
 rfl
theorem run (a b):runFn X bd .d nmR [4] [] [(.agg [(.str a.ln),(.str a.lf),(.str a.lt),(.int .i64 a.lk),(.int .i64 a.ll),(.int .i64 a.lu),(.int .i64 a.ld),(.str a.lc),(.int .i64 a.lw),(.int .i64 a.lh),(.lst .knot a.lv)]),(.agg [(.str b.ln),(.str b.lf),(.str b.lt),(.int .i64 b.lk),(.int .i64 b.ll),(.int .i64 b.lu),(.int .i64 b.ld),(.str b.lc),(.int .i64 b.lw),(.int .i64 b.lh),(.lst .knot b.lv)])]=f0 a b:=T0 a b
theorem f0_eq (a b:Lnk) (h:nle (List.length (Lnk.lv a)) 90000=true):f0 a b=outB (sameK a b):=by
 show sh0 a b=_
 unfold sh0 sameK
 rw [h]
 simp only [chkT,oB,cAnd]
theorem ok:CtxOk Tryz.prog X:=ctxOk tab (spC equalT.spOk spN) dpN
theorem okM:MOk Tryz.prog X:=fun g sp h=>by cases h
theorem spec (a:Lnk) (b:Lnk) (h:(nle (List.length (Lnk.lv a)) 90000)=true):CallSpec Tryz.prog E 152 [(.agg [(.str a.ln),(.str a.lf),(.str a.lt),(.int .i64 a.lk),(.int .i64 a.ll),(.int .i64 a.lu),(.int .i64 a.ld),(.str a.lc),(.int .i64 a.lw),(.int .i64 a.lh),(.lst .knot a.lv)]),(.agg [(.str b.ln),(.str b.lf),(.str b.lt),(.int .i64 b.lk),(.int .i64 b.ll),(.int .i64 b.lu),(.int .i64 b.ld),(.str b.lc),(.int .i64 b.lw),(.int .i64 b.lh),(.lst .knot b.lv)])] (.bool (sameK a b)) [] :=
 rfs ok okM Tryz.call152 Tryz.func152 ((run a b).trans (f0_eq a b h))
noncomputable def sp:Sp U El:=fun args k=>match args with
 | [.agg [.str a_ln,.str a_lf,.str a_lt,.int .i64 a_lk,.int .i64 a_ll,.int .i64 a_lu,.int .i64 a_ld,.str a_lc,.int .i64 a_lw,.int .i64 a_lh,.lst .knot a_lv],.agg [.str b_ln,.str b_lf,.str b_lt,.int .i64 b_lk,.int .i64 b_ll,.int .i64 b_lu,.int .i64 b_ld,.str b_lc,.int .i64 b_lw,.int .i64 b_lh,.lst .knot b_lv]]=>chk (nle (List.length (Lnk.lv (⟨a_ln,a_lf,a_lt,a_lk,a_ll,a_lu,a_ld,a_lc,a_lw,a_lh,a_lv⟩:Lnk))) 90000) (k (.bool (sameK (⟨a_ln,a_lf,a_lt,a_lk,a_ll,a_lu,a_ld,a_lc,a_lw,a_lh,a_lv⟩:Lnk) (⟨b_ln,b_lf,b_lt,b_lk,b_ll,b_lu,b_ld,b_lc,b_lw,b_lh,b_lv⟩:Lnk))) [])
 | _=>none
theorem spOk:SpOk Tryz.prog E 152 sp:=⟨fun vs=>by unfold sp;split;exact det_c _ _ _;exact ⟨none,fun _=>rfl⟩,fun vs k r h=>by unfold sp at h;split at h;(obtain ⟨h1,h2⟩:=chk_some h;exact ⟨_,_,spec ⟨_,_,_,_,_,_,_,_,_,_,_⟩ ⟨_,_,_,_,_,_,_,_,_,_,_⟩ h1,h2⟩);cases h⟩
end sameLink
namespace plain
noncomputable def bd:Code:=(Tryz.f153.body).getD .skip
noncomputable def X:Ctx U El:=⟨E,tds,zeros,eqs,specOf [],100000,50,dspecOf [],fun _=>none,fun _=>none⟩
noncomputable def nmR:Norm U:=⟨[],[50],[],[],[],[(50,10,.knot)],[]⟩
noncomputable def RR:Kont U El:=fun st=>loadRes X 50 [(2,62)] 50 st fun st=>normK nmR st (retFin [50] [])
noncomputable def nm1:Norm U:=⟨[],[2,3],[2,3],[],[],[],[(3,10,.knot)]⟩
abbrev Y1:=(List UInt8)→(List UInt8)→(List UInt8)→Int→Int→Int→Int→(List UInt8)→Int→Int→(List UInt8)→(List UInt8)→(List UInt8)→Int→Int→Int→Int→(List UInt8)→Int→Int→(List Knot)→R
noncomputable def fr0 (l:Lnk):St U El:=⟨[(0,(.agg [(.str l.ln),(.str l.lf),(.str l.lt),(.int .i64 l.lk),(.int .i64 l.ll),(.int .i64 l.lu),(.int .i64 l.ld),(.str l.lc),(.int .i64 l.lw),(.int .i64 l.lh),(.lst .knot l.lv)]))],[]⟩
noncomputable def fr1 (uA:List UInt8) (vA:List UInt8) (wA:List UInt8) (xA:Int) (yA:Int) (zA:Int) (aB:Int) (bB:List UInt8) (cB:Int) (dB:Int) (kA:List UInt8) (lA:List UInt8) (mA:List UInt8) (nA:Int) (oA:Int) (pA:Int) (qA:Int) (rA:List UInt8) (sA:Int) (tA:Int) (jA:List Knot):St U El:=⟨[(2,(.ptr 2 0)),(3,(.ptr 3 0))],[(2,(.box 0 [(.str uA),(.str vA),(.str wA),(.int .i64 xA),(.int .i64 yA),(.int .i64 zA),(.int .i64 aB),(.str bB),(.int .i64 cB),(.int .i64 dB),.nils])),(3,(.box 0 [(.str kA),(.str lA),(.str mA),(.int .i64 nA),(.int .i64 oA),(.int .i64 pA),(.int .i64 qA),(.str rA),(.int .i64 sA),(.int .i64 tA),(.lst .knot jA)]))]⟩
noncomputable def sh0 (l:Lnk) (k1:Y1):R :=
 condB (l.lk == (1:Int)) (k1 ([]:List UInt8) ([]:List UInt8) ([]:List UInt8) (0:Int) (0:Int) (0:Int) (0:Int) ([]:List UInt8) (0:Int) (0:Int) l.ln l.lf l.lt l.lk l.ll l.lu l.ld l.lc (0:Int) (0:Int) ([]:List Knot)) (condB (l.lk == (2:Int)) (k1 ([]:List UInt8) ([]:List UInt8) ([]:List UInt8) (0:Int) (0:Int) (0:Int) (0:Int) ([]:List UInt8) (0:Int) (0:Int) l.ln l.lf l.lt l.lk (0:Int) l.lu (0:Int) ([]:List UInt8) l.lw (0:Int) ([]:List Knot)) (condB (l.lk == (3:Int)) (k1 ([]:List UInt8) ([]:List UInt8) ([]:List UInt8) (0:Int) (0:Int) (0:Int) (0:Int) ([]:List UInt8) (0:Int) (0:Int) l.ln l.lf l.lt l.lk (0:Int) l.lu (0:Int) ([]:List UInt8) l.lw l.lh ([]:List Knot)) (condB (l.lk == (4:Int)) (k1 ([]:List UInt8) ([]:List UInt8) ([]:List UInt8) (0:Int) (0:Int) (0:Int) (0:Int) ([]:List UInt8) (0:Int) (0:Int) l.ln l.lf l.lt l.lk (0:Int) l.lu l.ld ([]:List UInt8) (0:Int) (0:Int) l.lv) (k1 ([]:List UInt8) ([]:List UInt8) ([]:List UInt8) (0:Int) (0:Int) (0:Int) (0:Int) ([]:List UInt8) (0:Int) (0:Int) l.ln l.lf l.lt l.lk (0:Int) l.lu (0:Int) ([]:List UInt8) (0:Int) (0:Int) ([]:List Knot)))))
noncomputable def sh1 (uA:List UInt8) (vA:List UInt8) (wA:List UInt8) (xA:Int) (yA:Int) (zA:Int) (aB:Int) (bB:List UInt8) (cB:Int) (dB:Int) (kA:List UInt8) (lA:List UInt8) (mA:List UInt8) (nA:Int) (oA:Int) (pA:Int) (qA:Int) (rA:List UInt8) (sA:Int) (tA:Int) (jA:List Knot):R :=
 some ((.agg [(.str kA),(.str lA),(.str mA),(.int .i64 nA),(.int .i64 oA),(.int .i64 pA),(.int .i64 qA),(.str rA),(.int .i64 sA),(.int .i64 tA),(.lst .knot jA)]),[])
noncomputable def ct1:Kont U El:=fun st=>exec X (cdp [1,1,1] bd) .d st RR (fun _ _=>none) RR
theorem P0 (l):exec X (cdp [] bd) (.seq none .d (.seq none .d (.seq (some nm1) (.seq none .d (.block (.seq none .d (.cond (.region [(7,3),(9,3),(11,3)]) (.seq none .d (.cond .d (.seq none .d (.cond (.region [(5,3),(7,3)]) (.seq none .d (.cond (.region [(5,3),(7,3)]) .d)))))))))) .d))) (fr0 l) RR (fun _ _=>none) RR=sh0 l (fun y0 y1 y2 y3 y4 y5 y6 y7 y8 y9 y10 y11 y12 y13 y14 y15 y16 y17 y18 y19 y20=>(hid ct1) (fr1 y0 y1 y2 y3 y4 y5 y6 y7 y8 y9 y10 y11 y12 y13 y14 y15 y16 y17 y18 y19 y20)):=by kernel_rfl
theorem P1 (uA vA wA xA yA zA aB bB cB dB kA lA mA nA oA pA qA rA sA tA jA):ct1 (fr1 uA vA wA xA yA zA aB bB cB dB kA lA mA nA oA pA qA rA sA tA jA)=sh1 uA vA wA xA yA zA aB bB cB dB kA lA mA nA oA pA qA rA sA tA jA:=by kernel_rfl
noncomputable def f1 (uA:List UInt8) (vA:List UInt8) (wA:List UInt8) (xA:Int) (yA:Int) (zA:Int) (aB:Int) (bB:List UInt8) (cB:Int) (dB:Int) (kA:List UInt8) (lA:List UInt8) (mA:List UInt8) (nA:Int) (oA:Int) (pA:Int) (qA:Int) (rA:List UInt8) (sA:Int) (tA:Int) (jA:List Knot):R:=sh1 uA vA wA xA yA zA aB bB cB dB kA lA mA nA oA pA qA rA sA tA jA
noncomputable def f0 (l:Lnk):R:=sh0 l f1
theorem T1 (uA vA wA xA yA zA aB bB cB dB kA lA mA nA oA pA qA rA sA tA jA):(hid ct1) (fr1 uA vA wA xA yA zA aB bB cB dB kA lA mA nA oA pA qA rA sA tA jA)=f1 uA vA wA xA yA zA aB bB cB dB kA lA mA nA oA pA qA rA sA tA jA:=by
 refine (congrFun (hid_eq _) _).trans <| (P1 uA vA wA xA yA zA aB bB cB dB kA lA mA nA oA pA qA rA sA tA jA).trans ?_
 show _=sh1 uA vA wA xA yA zA aB bB cB dB kA lA mA nA oA pA qA rA sA tA jA
 rfl
theorem T0 (l):exec X bd (.seq none .d (.seq none .d (.seq (some nm1) (.seq none .d (.block (.seq none .d (.cond (.region [(7,3),(9,3),(11,3)]) (.seq none .d (.cond .d (.seq none .d (.cond (.region [(5,3),(7,3)]) (.seq none .d (.cond (.region [(5,3),(7,3)]) .d)))))))))) .d))) (fr0 l) RR (fun _ _=>none) RR=f0 l:=by
 refine (P0 l).trans ?_
 show _=sh0 l f1
 simp only [T1]
theorem run (l):runFnC X bd (.seq none .d (.seq none .d (.seq (some nm1) (.seq none .d (.block (.seq none .d (.cond (.region [(7,3),(9,3),(11,3)]) (.seq none .d (.cond .d (.seq none .d (.cond (.region [(5,3),(7,3)]) (.seq none .d (.cond (.region [(5,3),(7,3)]) .d)))))))))) .d))) nmR [(2,62)] [50] [] [(.agg [(.str l.ln),(.str l.lf),(.str l.lt),(.int .i64 l.lk),(.int .i64 l.ll),(.int .i64 l.lu),(.int .i64 l.ld),(.str l.lc),(.int .i64 l.lw),(.int .i64 l.lh),(.lst .knot l.lv)])]=f0 l:=T0 l
theorem f0_eq (l:Lnk):f0 l=some (.agg [.str (plainK l).ln,.str (plainK l).lf,.str (plainK l).lt,.int .i64 (plainK l).lk,.int .i64 (plainK l).ll,.int .i64 (plainK l).lu,.int .i64 (plainK l).ld,.str (plainK l).lc,.int .i64 (plainK l).lw,.int .i64 (plainK l).lh,.lst .knot (plainK l).lv],[]):=by
 show sh0 l f1=_
 unfold sh0 plainK
 cases l.lk == 1
 ·cases l.lk == 2
  ·cases l.lk == 3
   ·cases l.lk == 4<;>rfl
   ·rfl
  ·rfl
 ·rfl
theorem ok:CtxOk Tryz.prog X:=ctxOk tab spN dpN
theorem okM:MOk Tryz.prog X:=fun g sp h=>by cases h
theorem spec (l:Lnk):CallSpec Tryz.prog E 153 [(.agg [(.str l.ln),(.str l.lf),(.str l.lt),(.int .i64 l.lk),(.int .i64 l.ll),(.int .i64 l.lu),(.int .i64 l.ld),(.str l.lc),(.int .i64 l.lw),(.int .i64 l.lh),(.lst .knot l.lv)])] (.agg [(.str ((plainK l).ln)),(.str ((plainK l).lf)),(.str ((plainK l).lt)),(.int .i64 ((plainK l).lk)),(.int .i64 ((plainK l).ll)),(.int .i64 ((plainK l).lu)),(.int .i64 ((plainK l).ld)),(.str ((plainK l).lc)),(.int .i64 ((plainK l).lw)),(.int .i64 ((plainK l).lh)),(.lst .knot ((plainK l).lv))]) [] :=
 runFnC_sound ok okM Tryz.call153 Tryz.func153 (by kernel_rfl) (by kernel_rfl) (by kernel_rfl) (by show 1≤50; decide) (by decide) (by rfl) ((run l).trans (f0_eq l))
noncomputable def sp:Sp U El:=fun args k=>match args with
 | [.agg [.str l_ln,.str l_lf,.str l_lt,.int .i64 l_lk,.int .i64 l_ll,.int .i64 l_lu,.int .i64 l_ld,.str l_lc,.int .i64 l_lw,.int .i64 l_lh,.lst .knot l_lv]]=>k (.agg [(.str ((plainK (⟨l_ln,l_lf,l_lt,l_lk,l_ll,l_lu,l_ld,l_lc,l_lw,l_lh,l_lv⟩:Lnk)).ln)),(.str ((plainK (⟨l_ln,l_lf,l_lt,l_lk,l_ll,l_lu,l_ld,l_lc,l_lw,l_lh,l_lv⟩:Lnk)).lf)),(.str ((plainK (⟨l_ln,l_lf,l_lt,l_lk,l_ll,l_lu,l_ld,l_lc,l_lw,l_lh,l_lv⟩:Lnk)).lt)),(.int .i64 ((plainK (⟨l_ln,l_lf,l_lt,l_lk,l_ll,l_lu,l_ld,l_lc,l_lw,l_lh,l_lv⟩:Lnk)).lk)),(.int .i64 ((plainK (⟨l_ln,l_lf,l_lt,l_lk,l_ll,l_lu,l_ld,l_lc,l_lw,l_lh,l_lv⟩:Lnk)).ll)),(.int .i64 ((plainK (⟨l_ln,l_lf,l_lt,l_lk,l_ll,l_lu,l_ld,l_lc,l_lw,l_lh,l_lv⟩:Lnk)).lu)),(.int .i64 ((plainK (⟨l_ln,l_lf,l_lt,l_lk,l_ll,l_lu,l_ld,l_lc,l_lw,l_lh,l_lv⟩:Lnk)).ld)),(.str ((plainK (⟨l_ln,l_lf,l_lt,l_lk,l_ll,l_lu,l_ld,l_lc,l_lw,l_lh,l_lv⟩:Lnk)).lc)),(.int .i64 ((plainK (⟨l_ln,l_lf,l_lt,l_lk,l_ll,l_lu,l_ld,l_lc,l_lw,l_lh,l_lv⟩:Lnk)).lw)),(.int .i64 ((plainK (⟨l_ln,l_lf,l_lt,l_lk,l_ll,l_lu,l_ld,l_lc,l_lw,l_lh,l_lv⟩:Lnk)).lh)),(.lst .knot ((plainK (⟨l_ln,l_lf,l_lt,l_lk,l_ll,l_lu,l_ld,l_lc,l_lw,l_lh,l_lv⟩:Lnk)).lv))]) []
 | _=>none
theorem spOk:SpOk Tryz.prog E 153 sp:=⟨fun vs=>by unfold sp;split;exact ⟨some (_,_),fun _=>rfl⟩;exact ⟨none,fun _=>rfl⟩,fun vs k r h=>by unfold sp at h;split at h;exact ⟨_,_,spec ⟨_,_,_,_,_,_,_,_,_,_,_⟩,h⟩;cases h⟩
end plain
end Go.Proofs.YthdimnlkcgchoaaGreat
