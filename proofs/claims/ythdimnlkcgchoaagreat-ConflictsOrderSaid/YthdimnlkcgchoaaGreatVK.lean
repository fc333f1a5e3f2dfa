import Derived.Test.YthdimnlkcgchoaaGreatVJ
namespace Go.Proofs.YthdimnlkcgchoaaGreat
set_option linter.all false
set_option maxRecDepth 100000
noncomputable def eqPr (x y:Pair):Bool:=(x.p0 == y.p0)&&((x.p1 == y.p1)&&true)
noncomputable def eqL {α:Type} (q:α→α→Bool):List α→List α→Bool
 | [],[]=>true
 | x :: a,y :: b=>q x y&&eqL q a b
 | _,_=>false
noncomputable def eqLen {α:Type} (q:α→α→Bool) (a b:List α):Bool:=bif (Int.ofNat a.length) != (Int.ofNat b.length) then false else eqL q a b
noncomputable def eqI (a b:List Int):Bool:=eqLen (fun x y=>x == y) a b
noncomputable def eqP (a b:List Pair):Bool:=eqLen eqPr a b
theorem eqL_self {α:Type} {q:α→α→Bool} (hq:∀ x,q x x=true):∀ a,eqL q a a=true:=by
 intro a
 induction a with
 | nil=>rfl
 | cons x a ih=>simp [eqL,hq,ih]
theorem eqLen_self {α:Type} {q:α→α→Bool} (hq:∀ x,q x x=true) (a:List α):eqLen q a a=true:=by
 unfold eqLen; rw [eqL_self hq]; simp
theorem eqI_self (a:List Int):eqI a a=true:=eqLen_self (by simp) a
theorem bneF {a b:Nat} (h:a=b):(Int.ofNat a != Int.ofNat b)=false:=by subst h; simp
theorem bneT {a b:Nat} (h:a≠b):(Int.ofNat a != Int.ofNat b)=true:=by simp; omega
namespace equalI
noncomputable def bd:Code:=(Tryz.f16.body).getD .skip
noncomputable def X:Ctx U El:=⟨E,tds,zeros,eqs,specOf [],100000,26,dspecOf [],fun _=>none,fun _=>none⟩
noncomputable def nmR:Norm U:=⟨[],[4],[],[],[],[],[]⟩
noncomputable def RR:Kont U El:=fun st=>normK nmR st (retFin [4] [])
noncomputable def nm1:Norm U:=⟨[],[],[],[],[],[],[]⟩
noncomputable def nm2:Norm U:=⟨[],[0,1,12,13],[],[],[],[],[]⟩
abbrev Y1:=R
abbrev Y2:=(List Int)→(List Int)→Int→Int→R
noncomputable def fr0 (a:List Int) (b:List Int):St U El:=⟨[(0,(.lst .int a)),(1,(.lst .int b))],[]⟩
noncomputable def fr1:St U El:=⟨[],[]⟩
noncomputable def fr2 (lA:List Int) (mA:List Int) (eA:Int) (dA:Int):St U El:=⟨[(0,(.lst .int lA)),(1,(.lst .int mA)),(12,(.int .i64 eA)),(13,(.int .i64 dA))],[]⟩
noncomputable def sh0 (a:List Int) (b:List Int) (k2:Y2):R :=
 condB ((Int.ofNat (List.length a)) != (Int.ofNat (List.length b))) (some ((.bool false),[])) (k2 a b (Int.ofNat (List.length a)) (0:Int))
noncomputable def sh1:R :=
 some ((.bool true),[])
noncomputable def sh2 (lA:List Int) (mA:List Int) (eA:Int) (dA:Int) (k1:Y1) (k2:Y2):R :=
 condB (ilt dA eA) (chk (inb dA (List.length lA)) (chk (inb dA (List.length mA)) (condB ((List.getD lA (Int.toNat dA) d_int) != (List.getD mA (Int.toNat dA) d_int)) (some ((.bool false),[])) (k2 lA mA eA (IntKind.wrap .i64 (dA+(1:Int))))))) (k1)
noncomputable def it2 (Kb1:Kont U El) (n:Nat):Kont U El:=iter nm2 (fun st' K'=>exec X (cdp [1,1,0,1,0,0] bd) .d st' K' (Eblk 0 (cutK nm1 Kb1) (fun _ _=>none)) RR) n
noncomputable def ct1:Kont U El:=fun st=>exec X (cdp [1,1,1] bd) .d st RR (fun _ _=>none) RR
theorem P0 (a b):exec X (cdp [] bd) (.seq none .d (.seq none .d (.seq (some nm1) (.seq none .d (.block (.loop nm2 .d))) .d))) (fr0 a b) RR (fun _ _=>none) RR=sh0 a b (fun y0 y1 y2 y3=>(hid (it2 (hid ct1) 100000)) (fr2 y0 y1 y2 y3)):=by kernel_rfl
theorem P1:ct1 (fr1)=sh1:=by kernel_rfl
theorem P2 (lA mA eA dA) (Kb1 Kb2:Kont U El):exec X (cdp [1,1,0,1,0,0] bd) .d (fr2 lA mA eA dA) (cutK nm2 Kb2) (Eblk 0 (cutK nm1 Kb1) (fun _ _=>none)) RR=sh2 lA mA eA dA (Kb1 (fr1)) (fun y0 y1 y2 y3=>Kb2 (fr2 y0 y1 y2 y3)):=by kernel_rfl
noncomputable def f1:R:=sh1
noncomputable def f2:Nat→Y2
 | 0=>fun _ _ _ _=>none
 | n+1=>fun lA mA eA dA=>sh2 lA mA eA dA f1 (f2 n)
noncomputable def f0 (a:List Int) (b:List Int):R:=sh0 a b (f2 100000)
theorem T1:(hid ct1) (fr1)=f1:=by
 refine (congrFun (hid_eq _) _).trans <| (P1).trans ?_
 show _=sh1
 rfl
theorem T2:∀ (n:Nat),∀ lA mA eA dA,it2 (hid ct1) n (fr2 lA mA eA dA)=f2 n lA mA eA dA:=by
  intro n
  induction n with
  | zero=>intros; rfl
  | succ n ih =>
    intro lA mA eA dA
    refine (P2 lA mA eA dA (hid ct1) (it2 (hid ct1) n)).trans ?_
    show _=sh2 lA mA eA dA f1 (f2 n)
    simp only [T1,ih]
theorem H2 (lA mA eA dA):hid (it2 (hid ct1) 100000) (fr2 lA mA eA dA)=f2 100000 lA mA eA dA:=(congrFun (hid_eq _) _).trans (T2 100000 lA mA eA dA)
theorem T0 (a b):exec X bd (.seq none .d (.seq none .d (.seq (some nm1) (.seq none .d (.block (.loop nm2 .d))) .d))) (fr0 a b) RR (fun _ _=>none) RR=f0 a b:=by
 refine (P0 a b).trans ?_
 show _=sh0 a b (f2 100000)
 simp only [H2]
theorem run (a b):runFn X bd (.seq none .d (.seq none .d (.seq (some nm1) (.seq none .d (.block (.loop nm2 .d))) .d))) nmR [4] [] [(.lst .int a),(.lst .int b)]=f0 a b:=T0 a b
theorem loop (b:List Int):∀ (n i:Nat) (a:List Int),a.length=b.length→a.length≤90000→a.length < n+i→i≤a.length→f2 n a b (Int.ofNat a.length) (i:Int)=outB (eqL (fun x y=>x == y) (a.drop i) (b.drop i)):=by
  intro n
  induction n with
  | zero=>intro i a h1 h2 h3 h4; omega
  | succ n ih =>
    intro i a h1 h2 h3 h4
    show sh2 a b (Int.ofNat a.length) (i:Int) f1 (f2 n)=_
    unfold sh2
    by_cases hi:i < a.length
    · have hj : i < b.length := by omega
      rw [iltT (by simp; omega),inbT hi,inbT hj,toNat_nat,getD_lt hi,getD_lt hj,drop_lt hi,drop_lt hj,wrapS i (by omega),ih (i+1) a h1 h2 (by omega) hi]
      simp only [condT,chkT,eqL]
      show condB (!(a[i] == b[i])) (outB false) _=_
      cases a[i] == b[i]<;>rfl
    · have e1 : i = a.length := by omega
      subst e1
      rw [iltF (by simp),List.drop_length,h1,List.drop_length]
      rfl
theorem f0_eq (a b:List Int) (h:nle (List.length a) 90000=true):f0 a b=outB (eqI a b):=by
 show sh0 a b (f2 100000)=_
 unfold sh0 eqI eqLen
 by_cases e:a.length=b.length
 ·rw [bneF e]
  exact loop b 100000 0 a e (nleI h) (by have:=nleI h; omega) (by omega)
 ·rw [bneT e]
  rfl
theorem ok:CtxOk Tryz.prog X:=ctxOk tab spN dpN
theorem okM:MOk Tryz.prog X:=fun g sp h=>by cases h
theorem spec (a:List Int) (b:List Int) (h:(nle (List.length a) 90000)=true):CallSpec Tryz.prog E 16 [(.lst .int a),(.lst .int b)] (.bool (eqI a b)) [] :=
 rfs ok okM Tryz.call16 Tryz.func16 ((run a b).trans (f0_eq a b h))
noncomputable def sp:Sp U El:=fun args k=>match args with
 | [.lst .int a,.lst .int b]=>chk (nle (List.length a) 90000) (k (.bool (eqI a b)) [])
 | _=>none
theorem spOk:SpOk Tryz.prog E 16 sp:=⟨fun vs=>by unfold sp;split;exact det_c _ _ _;exact ⟨none,fun _=>rfl⟩,fun vs k r h=>by unfold sp at h;split at h;(obtain ⟨h1,h2⟩:=chk_some h;exact ⟨_,_,spec _ _ h1,h2⟩);cases h⟩
end equalI
namespace equalP
noncomputable def bd:Code:=(Tryz.f21.body).getD .skip
noncomputable def X:Ctx U El:=⟨E,tds,zeros,eqs,specOf [],100000,26,dspecOf [],fun _=>none,fun _=>none⟩
noncomputable def nmR:Norm U:=⟨[],[4],[],[],[],[],[]⟩
noncomputable def RR:Kont U El:=fun st=>normK nmR st (retFin [4] [])
noncomputable def nm1:Norm U:=⟨[],[],[],[],[],[],[]⟩
noncomputable def nm2:Norm U:=⟨[],[0,1,12,13],[],[],[],[],[]⟩
abbrev Y1:=R
abbrev Y2:=(List Pair)→(List Pair)→Int→Int→R
noncomputable def fr0 (a:List Pair) (b:List Pair):St U El:=⟨[(0,(.lst .pair a)),(1,(.lst .pair b))],[]⟩
noncomputable def fr1:St U El:=⟨[],[]⟩
noncomputable def fr2 (lA:List Pair) (mA:List Pair) (eA:Int) (dA:Int):St U El:=⟨[(0,(.lst .pair lA)),(1,(.lst .pair mA)),(12,(.int .i64 eA)),(13,(.int .i64 dA))],[]⟩
noncomputable def sh0 (a:List Pair) (b:List Pair) (k2:Y2):R :=
 condB ((Int.ofNat (List.length a)) != (Int.ofNat (List.length b))) (some ((.bool false),[])) (k2 a b (Int.ofNat (List.length a)) (0:Int))
noncomputable def sh1:R :=
 some ((.bool true),[])
noncomputable def sh2 (lA:List Pair) (mA:List Pair) (eA:Int) (dA:Int) (k1:Y1) (k2:Y2):R :=
 condB (ilt dA eA) (chk (inb dA (List.length lA)) (chk (inb dA (List.length mA)) (condB (!(((List.getD lA (Int.toNat dA) d_pair).p0 == (List.getD mA (Int.toNat dA) d_pair).p0)&&(((List.getD lA (Int.toNat dA) d_pair).p1 == (List.getD mA (Int.toNat dA) d_pair).p1)&&true))) (some ((.bool false),[])) (k2 lA mA eA (IntKind.wrap .i64 (dA+(1:Int))))))) (k1)
noncomputable def it2 (Kb1:Kont U El) (n:Nat):Kont U El:=iter nm2 (fun st' K'=>exec X (cdp [1,1,0,1,0,0] bd) .d st' K' (Eblk 0 (cutK nm1 Kb1) (fun _ _=>none)) RR) n
noncomputable def ct1:Kont U El:=fun st=>exec X (cdp [1,1,1] bd) .d st RR (fun _ _=>none) RR
theorem P0 (a b):exec X (cdp [] bd) (.seq none .d (.seq none .d (.seq (some nm1) (.seq none .d (.block (.loop nm2 .d))) .d))) (fr0 a b) RR (fun _ _=>none) RR=sh0 a b (fun y0 y1 y2 y3=>(hid (it2 (hid ct1) 100000)) (fr2 y0 y1 y2 y3)):=by kernel_rfl
theorem P1:ct1 (fr1)=sh1:=by kernel_rfl
theorem P2 (lA mA eA dA) (Kb1 Kb2:Kont U El):exec X (cdp [1,1,0,1,0,0] bd) .d (fr2 lA mA eA dA) (cutK nm2 Kb2) (Eblk 0 (cutK nm1 Kb1) (fun _ _=>none)) RR=sh2 lA mA eA dA (Kb1 (fr1)) (fun y0 y1 y2 y3=>Kb2 (fr2 y0 y1 y2 y3)):=by kernel_rfl
noncomputable def f1:R:=sh1
noncomputable def f2:Nat→Y2
 | 0=>fun _ _ _ _=>none
 | n+1=>fun lA mA eA dA=>sh2 lA mA eA dA f1 (f2 n)
noncomputable def f0 (a:List Pair) (b:List Pair):R:=sh0 a b (f2 100000)
theorem T1:(hid ct1) (fr1)=f1:=by
 refine (congrFun (hid_eq _) _).trans <| (P1).trans ?_
 show _=sh1
 rfl
theorem T2:∀ (n:Nat),∀ lA mA eA dA,it2 (hid ct1) n (fr2 lA mA eA dA)=f2 n lA mA eA dA:=by
  intro n
  induction n with
  | zero=>intros; rfl
  | succ n ih =>
    intro lA mA eA dA
    refine (P2 lA mA eA dA (hid ct1) (it2 (hid ct1) n)).trans ?_
    show _=sh2 lA mA eA dA f1 (f2 n)
    simp only [T1,ih]
theorem H2 (lA mA eA dA):hid (it2 (hid ct1) 100000) (fr2 lA mA eA dA)=f2 100000 lA mA eA dA:=(congrFun (hid_eq _) _).trans (T2 100000 lA mA eA dA)
theorem T0 (a b):exec X bd (.seq none .d (.seq none .d (.seq (some nm1) (.seq none .d (.block (.loop nm2 .d))) .d))) (fr0 a b) RR (fun _ _=>none) RR=f0 a b:=by
 refine (P0 a b).trans ?_
 show _=sh0 a b (f2 100000)
 simp only [H2]
theorem run (a b):runFn X bd (.seq none .d (.seq none .d (.seq (some nm1) (.seq none .d (.block (.loop nm2 .d))) .d))) nmR [4] [] [(.lst .pair a),(.lst .pair b)]=f0 a b:=T0 a b
theorem loop (b:List Pair):∀ (n i:Nat) (a:List Pair),a.length=b.length→a.length≤90000→a.length < n+i→i≤a.length→f2 n a b (Int.ofNat a.length) (i:Int)=outB (eqL eqPr (a.drop i) (b.drop i)):=by
  intro n
  induction n with
  | zero=>intro i a h1 h2 h3 h4; omega
  | succ n ih =>
    intro i a h1 h2 h3 h4
    show sh2 a b (Int.ofNat a.length) (i:Int) f1 (f2 n)=_
    unfold sh2
    by_cases hi:i < a.length
    · have hj : i < b.length := by omega
      rw [iltT (by simp; omega),inbT hi,inbT hj,toNat_nat,getD_lt hi,getD_lt hj,drop_lt hi,drop_lt hj,wrapS i (by omega),ih (i+1) a h1 h2 (by omega) hi]
      simp only [condT,chkT,eqL]
      show condB (!(eqPr a[i] b[i])) (outB false) _=_
      cases eqPr a[i] b[i]<;>rfl
    · have e1 : i = a.length := by omega
      subst e1
      rw [iltF (by simp),List.drop_length,h1,List.drop_length]
      rfl
theorem f0_eq (a b:List Pair) (h:nle (List.length a) 90000=true):f0 a b=outB (eqP a b):=by
 show sh0 a b (f2 100000)=_
 unfold sh0 eqP eqLen
 by_cases e:a.length=b.length
 ·rw [bneF e]
  exact loop b 100000 0 a e (nleI h) (by have:=nleI h; omega) (by omega)
 ·rw [bneT e]
  rfl
theorem ok:CtxOk Tryz.prog X:=ctxOk tab spN dpN
theorem okM:MOk Tryz.prog X:=fun g sp h=>by cases h
theorem spec (a:List Pair) (b:List Pair) (h:(nle (List.length a) 90000)=true):CallSpec Tryz.prog E 21 [(.lst .pair a),(.lst .pair b)] (.bool (eqP a b)) [] :=
 rfs ok okM Tryz.call21 Tryz.func21 ((run a b).trans (f0_eq a b h))
noncomputable def sp:Sp U El:=fun args k=>match args with
 | [.lst .pair a,.lst .pair b]=>chk (nle (List.length a) 90000) (k (.bool (eqP a b)) [])
 | _=>none
theorem spOk:SpOk Tryz.prog E 21 sp:=⟨fun vs=>by unfold sp;split;exact det_c _ _ _;exact ⟨none,fun _=>rfl⟩,fun vs k r h=>by unfold sp at h;split at h;(obtain ⟨h1,h2⟩:=chk_some h;exact ⟨_,_,spec _ _ h1,h2⟩);cases h⟩
end equalP
namespace cfind
noncomputable def bd:Code:=(Tryz.f66.body).getD .skip
noncomputable def X:Ctx U El:=⟨E,tds,zeros,eqs,specOf [(63,least.sp)],100000,60,dspecOf [],fun _=>none,fun _=>none⟩
noncomputable def nmR:Norm U:=⟨[(4,.pair)],[4],[4],[],[],[],[]⟩
noncomputable def RR:Kont U El:=fun st=>normK nmR st (retFin [4] [4])
noncomputable def nm1:Norm U:=⟨[(5,.pair)],[5],[5],[],[],[],[]⟩
noncomputable def nm2:Norm U:=⟨[(5,.pair)],[0,3,5,12,13,14],[5,3],[],[],[],[(3,0,.node),(3,1,.link)]⟩
noncomputable def nm3:Norm U:=⟨[(5,.pair)],[0,3,5,12,13,14],[5,3],[],[],[],[(3,0,.node),(3,1,.link)]⟩
noncomputable def nm4:Norm U:=⟨[(5,.pair)],[0,3,5,6,7,8,12,13,14],[5,3,7],[],[],[],[(3,0,.node),(3,1,.link),(7,1,.cnd)]⟩
noncomputable def nm5:Norm U:=⟨[(5,.pair)],[0,3,5,6,7,8,12,13,14],[5,3,7],[],[],[],[(3,0,.node),(3,1,.link),(7,1,.cnd)]⟩
abbrev Y1:=(List Pair)→R
abbrev Y2:=(List Rule)→(List Pair)→(List Rule)→Int→Int→(List Node)→(List Lnk)→R
abbrev Y3:=(List Rule)→(List Pair)→(List Rule)→Int→Int→(List Node)→(List Lnk)→R
abbrev Y4:=(List Rule)→(List Pair)→Int→Int→(List Rule)→Int→Int→(List Node)→(List Lnk)→(List UInt8)→(List Cnd)→(List UInt8)→Int→R
abbrev Y5:=(List Rule)→(List Pair)→Int→Int→(List Rule)→Int→Int→(List Node)→(List Lnk)→(List UInt8)→(List Cnd)→(List UInt8)→Int→R
noncomputable def fr0 (l:List Rule) (n:Net):St U El:=⟨[(0,(.lst .rule l)),(1,(.agg [(.lst .node n.nds),(.lst .link n.lks)]))],[]⟩
noncomputable def fr1 (cA:List Pair):St U El:=⟨[(5,(.ful 5))],[(5,(.rows .pair cA))]⟩
noncomputable def fr2 (l0:List Rule) (cA:List Pair) (eA:List Rule) (dA:Int) (fA:Int) (aA:List Node) (bA:List Lnk):St U El:=⟨[(0,(.lst .rule l0)),(3,(.ptr 3 0)),(5,(.ful 5)),(12,(.lst .rule eA)),(13,(.int .i64 dA)),(14,(.int .i64 fA))],[(5,(.rows .pair cA)),(3,(.box 0 [(.lst .node aA),(.lst .link bA)]))]⟩
noncomputable def fr3 (l0:List Rule) (cA:List Pair) (eA:List Rule) (dA:Int) (fA:Int) (aA:List Node) (bA:List Lnk):St U El:=⟨[(0,(.lst .rule l0)),(3,(.ptr 3 0)),(5,(.ful 5)),(12,(.lst .rule eA)),(13,(.int .i64 dA)),(14,(.int .i64 fA))],[(5,(.rows .pair cA)),(3,(.box 0 [(.lst .node aA),(.lst .link bA)]))]⟩
noncomputable def fr4 (l0:List Rule) (cA:List Pair) (i6:Int) (kA:Int) (eA:List Rule) (dA:Int) (fA:Int) (aA:List Node) (bA:List Lnk) (iA:List UInt8) (jA:List Cnd) (gA:List UInt8) (hA:Int):St U El:=⟨[(0,(.lst .rule l0)),(3,(.ptr 3 0)),(5,(.ful 5)),(6,(.int .i64 i6)),(7,(.ptr 7 0)),(8,(.int .i64 kA)),(12,(.lst .rule eA)),(13,(.int .i64 dA)),(14,(.int .i64 fA))],[(5,(.rows .pair cA)),(3,(.box 0 [(.lst .node aA),(.lst .link bA)])),(7,(.box 0 [(.str iA),(.lst .cnd jA),(.str gA),(.int .i64 hA)]))]⟩
noncomputable def fr5 (l0:List Rule) (cA:List Pair) (i6:Int) (kA:Int) (eA:List Rule) (dA:Int) (fA:Int) (aA:List Node) (bA:List Lnk) (iA:List UInt8) (jA:List Cnd) (gA:List UInt8) (hA:Int):St U El:=⟨[(0,(.lst .rule l0)),(3,(.ptr 3 0)),(5,(.ful 5)),(6,(.int .i64 i6)),(7,(.ptr 7 0)),(8,(.int .i64 kA)),(12,(.lst .rule eA)),(13,(.int .i64 dA)),(14,(.int .i64 fA))],[(5,(.rows .pair cA)),(3,(.box 0 [(.lst .node aA),(.lst .link bA)])),(7,(.box 0 [(.str iA),(.lst .cnd jA),(.str gA),(.int .i64 hA)]))]⟩
noncomputable def sh0 (l:List Rule) (n:Net) (k2:Y2):R :=
 k2 l ([]:List Pair) l (Int.ofNat (List.length l)) (0:Int) n.nds n.lks
noncomputable def sh1 (cA:List Pair):R :=
 some ((.ful 0),[(0,.rows .pair cA)])
noncomputable def sh2 (l0:List Rule) (cA:List Pair) (eA:List Rule) (dA:Int) (fA:Int) (aA:List Node) (bA:List Lnk) (k1:Y1) (k4:Y4):R :=
 condB (ilt fA dA) (chk (inb fA (List.length eA)) (k4 l0 cA fA (IntKind.wrap .i64 (fA+(1:Int))) eA dA fA aA bA ((List.getD eA (Int.toNat fA) d_rule).rn) ((List.getD eA (Int.toNat fA) d_rule).rw) ((List.getD eA (Int.toNat fA) d_rule).rl) ((List.getD eA (Int.toNat fA) d_rule).rs))) (k1 cA)
noncomputable def sh3 (l0:List Rule) (cA:List Pair) (eA:List Rule) (dA:Int) (fA:Int) (aA:List Node) (bA:List Lnk) (k2:Y2):R :=
 k2 l0 cA eA dA (IntKind.wrap .i64 (fA+(1:Int))) aA bA
noncomputable def sh4 (l0:List Rule) (cA:List Pair) (i6:Int) (kA:Int) (eA:List Rule) (dA:Int) (fA:Int) (aA:List Node) (bA:List Lnk) (iA:List UInt8) (jA:List Cnd) (gA:List UInt8) (hA:Int) (k3:Y3) (k5:Y5):R :=
 condB (ilt kA (Int.ofNat (List.length l0))) (chk (inb kA (List.length l0)) (condB (gA == ((List.getD l0 (Int.toNat kA) d_rule).rl)) (condB (hA != (List.getD l0 (Int.toNat kA) d_rule).rs) (chk ((okN (⟨aA,bA⟩:Net)&&(okR ([(⟨iA,jA,gA,hA⟩:Rule),(List.getD l0 (Int.toNat kA) d_rule)]:List Rule)&&okWs ([(⟨iA,jA,gA,hA⟩:Rule),(List.getD l0 (Int.toNat kA) d_rule)]:List Rule)))) (condB (leastB (Net.nds (⟨aA,bA⟩:Net)) (List.flatMap Rule.rw ([(⟨iA,jA,gA,hA⟩:Rule),(List.getD l0 (Int.toNat kA) d_rule)]:List Rule))) (chk (nle ((List.length cA+List.length ([(⟨i6,kA⟩:Pair)]:List Pair)) * 16) 140737488355328&&nle (List.length cA+List.length ([(⟨i6,kA⟩:Pair)]:List Pair)) 9223372036854775807) (k5 l0 (cA++([(⟨i6,kA⟩:Pair)]:List Pair)) i6 kA eA dA fA aA bA iA jA gA hA)) (k5 l0 cA i6 kA eA dA fA aA bA iA jA gA hA))) (k5 l0 cA i6 kA eA dA fA aA bA iA jA gA hA)) (k5 l0 cA i6 kA eA dA fA aA bA iA jA gA hA))) (k3 l0 cA eA dA fA aA bA)
noncomputable def sh5 (l0:List Rule) (cA:List Pair) (i6:Int) (kA:Int) (eA:List Rule) (dA:Int) (fA:Int) (aA:List Node) (bA:List Lnk) (iA:List UInt8) (jA:List Cnd) (gA:List UInt8) (hA:Int) (k4:Y4):R :=
 k4 l0 cA i6 (IntKind.wrap .i64 (kA+(1:Int))) eA dA fA aA bA iA jA gA hA
noncomputable def it2 (Kb1:Kont U El) (n:Nat):Kont U El:=iter nm2 (fun st' K'=>exec X (cdp [1,1,0,1,0,0] bd) (.seq none .d (.seq none .d (.seq (some nm3) (.block (.seq none .d (.seq none .d (.block (.loop nm4 (.seq none .d (.seq (some nm5) .d .d))))))) .d))) st' K' (Eblk 0 (cutK nm1 Kb1) (fun _ _=>none)) RR) n
noncomputable def it4 (Kb1 Kb3:Kont U El) (n:Nat):Kont U El:=iter nm4 (fun st' K'=>exec X (cdp [1,1,0,1,0,0,1,1,0,0,1,1,0,0] bd) (.seq none .d (.seq (some nm5) .d .d)) st' K' (Eblk 2 (cutK nm3 Kb3) (Eblk 1 (cutK nm3 Kb3) (Eblk 0 (cutK nm1 Kb1) (fun _ _=>none)))) RR) n
noncomputable def ct1:Kont U El:=fun st=>exec X (cdp [1,1,1] bd) .d st RR (fun _ _=>none) RR
noncomputable def ct3 (Kb1 Kb2:Kont U El):Kont U El:=fun st=>exec X (cdp [1,1,0,1,0,0,1,1,1] bd) .d st (cutK nm2 Kb2) (Eblk 0 (cutK nm1 Kb1) (fun _ _=>none)) RR
noncomputable def ct5 (Kb1 Kb3 Kb4:Kont U El):Kont U El:=fun st=>exec X (cdp [1,1,0,1,0,0,1,1,0,0,1,1,0,0,1,1] bd) .d st (cutK nm4 Kb4) (Eblk 2 (cutK nm3 Kb3) (Eblk 1 (cutK nm3 Kb3) (Eblk 0 (cutK nm1 Kb1) (fun _ _=>none)))) RR
theorem P0 (l n):exec X (cdp [] bd) (.seq none .d (.seq none .d (.seq (some nm1) (.seq none .d (.block (.loop nm2 (.seq none .d (.seq none .d (.seq (some nm3) (.block (.seq none .d (.seq none .d (.block (.loop nm4 (.seq none .d (.seq (some nm5) .d .d))))))) .d)))))) .d))) (fr0 l n) RR (fun _ _=>none) RR=sh0 l n (fun y0 y1 y2 y3 y4 y5 y6=>(hid (it2 (hid ct1) 100000)) (fr2 y0 y1 y2 y3 y4 y5 y6)):=by kernel_rfl
theorem P1 (cA):ct1 (fr1 cA)=sh1 cA:=by kernel_rfl
theorem P2 (l0 cA eA dA fA aA bA) (Kb1 Kb2:Kont U El):exec X (cdp [1,1,0,1,0,0] bd) (.seq none .d (.seq none .d (.seq (some nm3) (.block (.seq none .d (.seq none .d (.block (.loop nm4 (.seq none .d (.seq (some nm5) .d .d))))))) .d))) (fr2 l0 cA eA dA fA aA bA) (cutK nm2 Kb2) (Eblk 0 (cutK nm1 Kb1) (fun _ _=>none)) RR=sh2 l0 cA eA dA fA aA bA (fun y0=>Kb1 (fr1 y0)) (fun y0 y1 y2 y3 y4 y5 y6 y7 y8 y9 y10 y11 y12=>(hid (it4 Kb1 (hid (ct3 Kb1 Kb2)) 100000)) (fr4 y0 y1 y2 y3 y4 y5 y6 y7 y8 y9 y10 y11 y12)):=by kernel_rfl
theorem P3 (l0 cA eA dA fA aA bA) (Kb1 Kb2:Kont U El):ct3 Kb1 Kb2 (fr3 l0 cA eA dA fA aA bA)=sh3 l0 cA eA dA fA aA bA (fun y0 y1 y2 y3 y4 y5 y6=>Kb2 (fr2 y0 y1 y2 y3 y4 y5 y6)):=by kernel_rfl
theorem P4 (l0 cA i6 kA eA dA fA aA bA iA jA gA hA) (Kb1 Kb3 Kb4:Kont U El):exec X (cdp [1,1,0,1,0,0,1,1,0,0,1,1,0,0] bd) (.seq none .d (.seq (some nm5) .d .d)) (fr4 l0 cA i6 kA eA dA fA aA bA iA jA gA hA) (cutK nm4 Kb4) (Eblk 2 (cutK nm3 Kb3) (Eblk 1 (cutK nm3 Kb3) (Eblk 0 (cutK nm1 Kb1) (fun _ _=>none)))) RR=sh4 l0 cA i6 kA eA dA fA aA bA iA jA gA hA (fun y0 y1 y2 y3 y4 y5 y6=>Kb3 (fr3 y0 y1 y2 y3 y4 y5 y6)) (fun y0 y1 y2 y3 y4 y5 y6 y7 y8 y9 y10 y11 y12=>(hid (ct5 Kb1 Kb3 Kb4)) (fr5 y0 y1 y2 y3 y4 y5 y6 y7 y8 y9 y10 y11 y12)):=by kernel_rfl
theorem P5 (l0 cA i6 kA eA dA fA aA bA iA jA gA hA) (Kb1 Kb3 Kb4:Kont U El):ct5 Kb1 Kb3 Kb4 (fr5 l0 cA i6 kA eA dA fA aA bA iA jA gA hA)=sh5 l0 cA i6 kA eA dA fA aA bA iA jA gA hA (fun y0 y1 y2 y3 y4 y5 y6 y7 y8 y9 y10 y11 y12=>Kb4 (fr4 y0 y1 y2 y3 y4 y5 y6 y7 y8 y9 y10 y11 y12)):=by kernel_rfl
noncomputable def f1 (cA:List Pair):R:=sh1 cA
noncomputable def f3 (k2:Y2) (l0:List Rule) (cA:List Pair) (eA:List Rule) (dA:Int) (fA:Int) (aA:List Node) (bA:List Lnk):R:=sh3 l0 cA eA dA fA aA bA k2
noncomputable def f5 (k2:Y2) (k4:Y4) (l0:List Rule) (cA:List Pair) (i6:Int) (kA:Int) (eA:List Rule) (dA:Int) (fA:Int) (aA:List Node) (bA:List Lnk) (iA:List UInt8) (jA:List Cnd) (gA:List UInt8) (hA:Int):R:=sh5 l0 cA i6 kA eA dA fA aA bA iA jA gA hA k4
noncomputable def f4 (k2:Y2):Nat→Y4
 | 0=>fun _ _ _ _ _ _ _ _ _ _ _ _ _=>none
 | n+1=>fun l0 cA i6 kA eA dA fA aA bA iA jA gA hA=>sh4 l0 cA i6 kA eA dA fA aA bA iA jA gA hA (f3 k2) (f5 k2 (f4 k2 n))
noncomputable def f2:Nat→Y2
 | 0=>fun _ _ _ _ _ _ _=>none
 | n+1=>fun l0 cA eA dA fA aA bA=>sh2 l0 cA eA dA fA aA bA f1 (f4 (f2 n) 100000)
noncomputable def f0 (l:List Rule) (n:Net):R:=sh0 l n (f2 100000)
theorem T1 (cA):(hid ct1) (fr1 cA)=f1 cA:=by
 refine (congrFun (hid_eq _) _).trans <| (P1 cA).trans ?_
 show _=sh1 cA
 rfl
theorem T3 (KL2:Kont U El) (k2:Y2) (h2:∀ l0 cA eA dA fA aA bA,KL2 (fr2 l0 cA eA dA fA aA bA)=k2 l0 cA eA dA fA aA bA) (l0 cA eA dA fA aA bA):(hid (ct3 (hid ct1) KL2)) (fr3 l0 cA eA dA fA aA bA)=f3 k2 l0 cA eA dA fA aA bA:=by
 refine (congrFun (hid_eq _) _).trans <| (P3 l0 cA eA dA fA aA bA (hid ct1) KL2).trans ?_
 show _=sh3 l0 cA eA dA fA aA bA k2
 simp only [h2]
theorem T5 (KL2:Kont U El) (KL4:Kont U El) (k2:Y2) (k4:Y4) (h2:∀ l0 cA eA dA fA aA bA,KL2 (fr2 l0 cA eA dA fA aA bA)=k2 l0 cA eA dA fA aA bA) (h4:∀ l0 cA i6 kA eA dA fA aA bA iA jA gA hA,KL4 (fr4 l0 cA i6 kA eA dA fA aA bA iA jA gA hA)=k4 l0 cA i6 kA eA dA fA aA bA iA jA gA hA) (l0 cA i6 kA eA dA fA aA bA iA jA gA hA):(hid (ct5 (hid ct1) (hid (ct3 (hid ct1) KL2)) KL4)) (fr5 l0 cA i6 kA eA dA fA aA bA iA jA gA hA)=f5 k2 k4 l0 cA i6 kA eA dA fA aA bA iA jA gA hA:=by
 refine (congrFun (hid_eq _) _).trans <| (P5 l0 cA i6 kA eA dA fA aA bA iA jA gA hA (hid ct1) (hid (ct3 (hid ct1) KL2)) KL4).trans ?_
 show _=sh5 l0 cA i6 kA eA dA fA aA bA iA jA gA hA k4
 simp only [h4]
theorem T4 (KL2:Kont U El) (k2:Y2) (h2:∀ l0 cA eA dA fA aA bA,KL2 (fr2 l0 cA eA dA fA aA bA)=k2 l0 cA eA dA fA aA bA):∀ (n:Nat),∀ l0 cA i6 kA eA dA fA aA bA iA jA gA hA,it4 (hid ct1) (hid (ct3 (hid ct1) KL2)) n (fr4 l0 cA i6 kA eA dA fA aA bA iA jA gA hA)=f4 k2 n l0 cA i6 kA eA dA fA aA bA iA jA gA hA:=by
  intro n
  induction n with
  | zero=>intros; rfl
  | succ n ih =>
    intro l0 cA i6 kA eA dA fA aA bA iA jA gA hA
    refine (P4 l0 cA i6 kA eA dA fA aA bA iA jA gA hA (hid ct1) (hid (ct3 (hid ct1) KL2)) (it4 (hid ct1) (hid (ct3 (hid ct1) KL2)) n)).trans ?_
    show _=sh4 l0 cA i6 kA eA dA fA aA bA iA jA gA hA (f3 k2) (f5 k2 (f4 k2 n))
    simp only [T3 KL2 k2 h2,T5 KL2 (it4 (hid ct1) (hid (ct3 (hid ct1) KL2)) n) k2 (f4 k2 n) h2 ih]
theorem H4 (KL2:Kont U El) (k2:Y2) (h2:∀ l0 cA eA dA fA aA bA,KL2 (fr2 l0 cA eA dA fA aA bA)=k2 l0 cA eA dA fA aA bA) (l0 cA i6 kA eA dA fA aA bA iA jA gA hA):hid (it4 (hid ct1) (hid (ct3 (hid ct1) KL2)) 100000) (fr4 l0 cA i6 kA eA dA fA aA bA iA jA gA hA)=f4 k2 100000 l0 cA i6 kA eA dA fA aA bA iA jA gA hA:=(congrFun (hid_eq _) _).trans (T4 KL2 k2 h2 100000 l0 cA i6 kA eA dA fA aA bA iA jA gA hA)
theorem T2:∀ (n:Nat),∀ l0 cA eA dA fA aA bA,it2 (hid ct1) n (fr2 l0 cA eA dA fA aA bA)=f2 n l0 cA eA dA fA aA bA:=by
  intro n
  induction n with
  | zero=>intros; rfl
  | succ n ih =>
    intro l0 cA eA dA fA aA bA
    refine (P2 l0 cA eA dA fA aA bA (hid ct1) (it2 (hid ct1) n)).trans ?_
    show _=sh2 l0 cA eA dA fA aA bA f1 (f4 (f2 n) 100000)
    simp only [T1,H4 (it2 (hid ct1) n) (f2 n) ih]
theorem H2 (l0 cA eA dA fA aA bA):hid (it2 (hid ct1) 100000) (fr2 l0 cA eA dA fA aA bA)=f2 100000 l0 cA eA dA fA aA bA:=(congrFun (hid_eq _) _).trans (T2 100000 l0 cA eA dA fA aA bA)
theorem T0 (l n):exec X bd (.seq none .d (.seq none .d (.seq (some nm1) (.seq none .d (.block (.loop nm2 (.seq none .d (.seq none .d (.seq (some nm3) (.block (.seq none .d (.seq none .d (.block (.loop nm4 (.seq none .d (.seq (some nm5) .d .d))))))) .d)))))) .d))) (fr0 l n) RR (fun _ _=>none) RR=f0 l n:=by
 refine (P0 l n).trans ?_
 show _=sh0 l n (f2 100000)
 simp only [H2]
theorem run (l n):runFn X bd (.seq none .d (.seq none .d (.seq (some nm1) (.seq none .d (.block (.loop nm2 (.seq none .d (.seq none .d (.seq (some nm3) (.block (.seq none .d (.seq none .d (.block (.loop nm4 (.seq none .d (.seq (some nm5) .d .d))))))) .d)))))) .d))) nmR [4] [4] [(.lst .rule l),(.agg [(.lst .node n.nds),(.lst .link n.lks)])]=f0 l n:=T0 l n
theorem inner (l : List Rule) (hr : rulesB l = true) (n0 : Net) (hn : okN n0 = true) (i : Int) (a : Rule) (ha : ruleB a = true) (dA fA : Int) (k2 : List Rule → List Pair → List Rule → Int → Int → List Node → List Lnk → R) : ∀ (n k : Nat) (out : List Pair), l.length < n + k → k ≤ l.length → out.length + (l.length - k) ≤ 100000 →
    f4 k2 n l out i (k:Int) l dA fA n0.nds n0.lks a.rn a.rw a.rl a.rs=k2 l (out++findFrom n0 i a k (l.drop k)) l dA (IntKind.wrap .i64 (fA+1)) n0.nds n0.lks:=by
  have hl:=(rulesB_len hr).1
  intro n
  induction n with
  | zero=>intro k out h1 h2; omega
  | succ n ih =>
    intro k out h1 h2 h3
    show sh4 l out i (k:Int) l dA fA n0.nds n0.lks a.rn a.rw a.rl a.rs (f3 k2) (f5 k2 (f4 k2 n))=_
    unfold sh4
    by_cases hk:k < l.length
    · have hb := (rulesB_len hr).2 _ (List.getElem_mem hk)
      rw [iltT (by simp; omega),inbT hk,toNat_nat,getD_lt hk,drop_lt hk]
      have hk5:∀ out',out'.length≤out.length+1→f5 k2 (f4 k2 n) l out' i (k:Int) l dA fA n0.nds n0.lks a.rn a.rw a.rl a.rs=k2 l (out'++findFrom n0 i a (k+1) (l.drop (k+1))) l dA (IntKind.wrap .i64 (fA+1)) n0.nds n0.lks:=fun out' ho=>by
        show f4 k2 n l out' i (IntKind.wrap .i64 ((k:Int)+1)) l dA fA n0.nds n0.lks a.rn a.rw a.rl a.rs=_
        rw [wrapS k (by omega)]
        exact ih (k+1) out' (by omega) hk (by omega)
      rw [hk5 out (by omega),hk5 (out++[(⟨i,(k:Int)⟩:Pair)]) (by simp)]
      have h2':(okR [(⟨a.rn,a.rw,a.rl,a.rs⟩:Rule),l[k]]&&okWs [(⟨a.rn,a.rw,a.rl,a.rs⟩:Rule),l[k]])=true:=two_ok ha hb
      have h1':okN (⟨n0.nds,n0.lks⟩:Net)=true:=hn
      rw [h1',h2',flat2,nleT (show _≤140737488355328 by simp; omega),nleT (show _≤9223372036854775807 by simp; omega)]
      simp only [condT,chkT,findFrom,Bool.true_and,Bool.and_true,cAnd2]
      show condB ((a.rl == l[k].rl)&&((a.rs != l[k].rs)&&leastB n0.nds (a.rw++l[k].rw))) _ _=_
      unfold contraB
      cases ((a.rl == l[k].rl)&&((a.rs != l[k].rs)&&leastB n0.nds (a.rw++l[k].rw)))
      · rfl
      · simp only [condT,cond_true,List.append_assoc,List.singleton_append]
    · have : k = l.length := by omega
      subst this
      rw [iltF (by simp),List.drop_length,findFrom,List.append_nil]
      rfl
theorem loop (l:List Rule) (hr:rulesB l=true) (n0:Net) (hn:okN n0=true):∀ (n i:Nat) (out:List Pair),l.length < n+i→i≤l.length→out.length≤60 * i→f2 n l out l (Int.ofNat l.length) (i:Int) n0.nds n0.lks=some (.ful 0,[(0,.rows .pair (out++findI n0 i (l.drop i)))]):=by
  have hl:=(rulesB_len hr).1
  intro n
  induction n with
  | zero=>intro i out h1 h2; omega
  | succ n ih =>
    intro i out h1 h2 h3
    show sh2 l out l (Int.ofNat l.length) (i:Int) n0.nds n0.lks f1 (f4 (f2 n) 100000)=_
    unfold sh2
    by_cases hi:i < l.length
    · have ha := (rulesB_len hr).2 _ (List.getElem_mem hi)
      rw [iltT (by simp; omega),inbT hi,toNat_nat,getD_lt hi,drop_lt hi,wrapS i (by omega),inner l hr n0 hn (i:Int) l[i] ha _ _ (f2 n) 100000 (i+1) out (by omega) hi (by omega),wrapS i (by omega)]
      have:=findFrom_len n0 (i:Int) l[i] (l.drop (i+1)) (i+1)
      rw [List.length_drop] at this
      rw [ih (i+1) _ (by omega) hi (by simp; omega)]
      simp only [condT,chkT,findI,List.append_assoc]
    · have : i = l.length := by omega
      subst this
      rw [iltF (by simp),List.drop_length,findI,List.append_nil]
      rfl
theorem f0_eq (l:List Rule) (n:Net) (h:(okN n&&rulesB l)=true):f0 l n=some (.ful 0,[(0,.rows .pair (findP l n))]):=by
 simp only [Bool.and_eq_true] at h
 have hl:=(rulesB_len h.2).1
 exact loop l h.2 n h.1 100000 0 [] (by omega) (by omega) (by simp)
theorem ok:CtxOk Tryz.prog X:=ctxOk tab (spC least.spOk spN) dpN
theorem okM:MOk Tryz.prog X:=fun g sp h=>by cases h
theorem spec (l:List Rule) (n:Net) (h:((okN n&&rulesB l))=true):CallSpec Tryz.prog E 66 [(.lst .rule l),(.agg [(.lst .node n.nds),(.lst .link n.lks)])] (.ful 0) [(0,.rows .pair (findP l n))] :=
 rfs ok okM Tryz.call66 Tryz.func66 ((run l n).trans (f0_eq l n h))
noncomputable def sp:Sp U El:=fun args k=>match args with
 | [.lst .rule l,.agg [.lst .node n_nds,.lst .link n_lks]]=>chk ((okN (⟨n_nds,n_lks⟩:Net)&&rulesB l)) (k (.ful 0) [(0,.rows .pair (findP l (⟨n_nds,n_lks⟩:Net)))])
 | _=>none
theorem spOk:SpOk Tryz.prog E 66 sp:=⟨fun vs=>by unfold sp;split;exact det_c _ _ _;exact ⟨none,fun _=>rfl⟩,fun vs k r h=>by unfold sp at h;split at h;(obtain ⟨h1,h2⟩:=chk_some h;exact ⟨_,_,spec _ ⟨_,_⟩ h1,h2⟩);cases h⟩
end cfind
end Go.Proofs.YthdimnlkcgchoaaGreat
