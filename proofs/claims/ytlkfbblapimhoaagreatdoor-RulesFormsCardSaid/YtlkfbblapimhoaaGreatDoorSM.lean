import Derived.Test.YtlkfbblapimhoaaGreatDoorTZ
namespace Go.Proofs.YtlkfbblapimhoaaGreatDoor
set_option linter.all false
set_option maxRecDepth 100000
noncomputable def eqL {α:Type} (q:α→α→Bool):List α→List α→Bool
 | [],[]=>true
 | x :: a,y :: b=>q x y&&eqL q a b
 | _,_=>false
noncomputable def eqLen {α:Type} (q:α→α→Bool) (a b:List α):Bool:=bif (Int.ofNat a.length) != (Int.ofNat b.length) then false else eqL q a b
theorem eqL_self {α:Type} {q:α→α→Bool} (hq:∀ x,q x x=true):∀ a,eqL q a a=true:=by
 intro a
 induction a with
 | nil=>rfl
 | cons x a ih=>simp [eqL,hq,ih]
theorem eqLen_self {α:Type} {q:α→α→Bool} (hq:∀ x,q x x=true) (a:List α):eqLen q a a=true:=by
 unfold eqLen; rw [eqL_self hq]; simp
theorem bneF {a b:Nat} (h:a=b):(Int.ofNat a != Int.ofNat b)=false:=by subst h; simp
theorem bneT {a b:Nat} (h:a≠b):(Int.ofNat a != Int.ofNat b)=true:=by simp; omega
noncomputable def sameC (x y:Cnd):Bool:=(x.cn == y.cn)&&((x.cb == y.cb)&&((x.cl == y.cl)&&true))
noncomputable def sameR (a b:Rule):Bool:=(a.rn == b.rn)&&((a.rl == b.rl)&&((a.rs == b.rs)&&eqLen sameC a.rw b.rw))
noncomputable def sameL (a b:List Rule):Bool:=eqLen sameR a b
theorem sameC_self (c:Cnd):sameC c c=true:=by simp [sameC]
theorem sameR_self (r:Rule):sameR r r=true:=by unfold sameR; rw [eqLen_self sameC_self]; simp
theorem sameL_self (l:List Rule):sameL l l=true:=eqLen_self sameR_self l
namespace rsameR
noncomputable def bd:Code:=(Tryz.f26.body).getD .skip
noncomputable def X:Ctx U El:=⟨E,tds,zeros,eqs,specOf [],100000,52,dspecOf [],fun _=>none,fun _=>none⟩
noncomputable def nmR:Norm U:=⟨[],[4],[],[],[],[],[]⟩
noncomputable def RR:Kont U El:=fun st=>normK nmR st (retFin [4] [])
noncomputable def nm1:Norm U:=⟨[],[2,3],[2,3],[],[],[],[(2,1,.cnd),(3,1,.cnd)]⟩
noncomputable def nm2:Norm U:=⟨[],[],[],[],[],[],[]⟩
noncomputable def nm3:Norm U:=⟨[],[2,3,5],[2,3],[],[],[],[(2,1,.cnd),(3,1,.cnd)]⟩
abbrev Y1:=(List UInt8)→(List Cnd)→(List UInt8)→Int→(List UInt8)→(List Cnd)→(List UInt8)→Int→R
abbrev Y2:=R
abbrev Y3:=Int→(List UInt8)→(List Cnd)→(List UInt8)→Int→(List UInt8)→(List Cnd)→(List UInt8)→Int→R
noncomputable def fr0 (a:Rule) (b:Rule):St U El:=⟨[(0,(.agg [(.str a.rn),(.lst .cnd a.rw),(.str a.rl),(.int .i64 a.rs)])),(1,(.agg [(.str b.rn),(.lst .cnd b.rw),(.str b.rl),(.int .i64 b.rs)]))],[]⟩
noncomputable def fr1 (cA:List UInt8) (aA:List Cnd) (dA:List UInt8) (eA:Int) (fA:List UInt8) (bA:List Cnd) (gA:List UInt8) (hA:Int):St U El:=⟨[(2,(.ptr 2 0)),(3,(.ptr 3 0))],[(2,(.box 0 [(.str cA),(.lst .cnd aA),(.str dA),(.int .i64 eA)])),(3,(.box 0 [(.str fA),(.lst .cnd bA),(.str gA),(.int .i64 hA)]))]⟩
noncomputable def fr2:St U El:=⟨[],[]⟩
noncomputable def fr3 (i5:Int) (cA:List UInt8) (aA:List Cnd) (dA:List UInt8) (eA:Int) (fA:List UInt8) (bA:List Cnd) (gA:List UInt8) (hA:Int):St U El:=⟨[(2,(.ptr 2 0)),(3,(.ptr 3 0)),(5,(.int .i64 i5))],[(2,(.box 0 [(.str cA),(.lst .cnd aA),(.str dA),(.int .i64 eA)])),(3,(.box 0 [(.str fA),(.lst .cnd bA),(.str gA),(.int .i64 hA)]))]⟩
noncomputable def sh0 (a:Rule) (b:Rule) (k1:Y1):R :=
 condB (!(a.rn == b.rn)) (some ((.bool false),[])) (condB (!(a.rl == b.rl)) (some ((.bool false),[])) (condB (a.rs != b.rs) (some ((.bool false),[])) (condB ((Int.ofNat (List.length a.rw)) != (Int.ofNat (List.length b.rw))) (some ((.bool false),[])) (k1 a.rn a.rw a.rl a.rs b.rn b.rw b.rl b.rs))))
noncomputable def sh1 (cA:List UInt8) (aA:List Cnd) (dA:List UInt8) (eA:Int) (fA:List UInt8) (bA:List Cnd) (gA:List UInt8) (hA:Int) (k3:Y3):R :=
 k3 (0:Int) cA aA dA eA fA bA gA hA
noncomputable def sh2:R :=
 some ((.bool true),[])
noncomputable def sh3 (i5:Int) (cA:List UInt8) (aA:List Cnd) (dA:List UInt8) (eA:Int) (fA:List UInt8) (bA:List Cnd) (gA:List UInt8) (hA:Int) (k2:Y2) (k3:Y3):R :=
 condB (ilt i5 (Int.ofNat (List.length aA))) (chk (inb i5 (List.length aA)) (chk (inb i5 (List.length bA)) (condB (!(((List.getD aA (Int.toNat i5) d_cnd).cn == (List.getD bA (Int.toNat i5) d_cnd).cn)&&(((List.getD aA (Int.toNat i5) d_cnd).cb == (List.getD bA (Int.toNat i5) d_cnd).cb)&&(((List.getD aA (Int.toNat i5) d_cnd).cl == (List.getD bA (Int.toNat i5) d_cnd).cl)&&true)))) (some ((.bool false),[])) (k3 (IntKind.wrap .i64 (i5+(1:Int))) cA aA dA eA fA bA gA hA)))) (k2)
noncomputable def it3 (Kb2:Kont U El) (n:Nat):Kont U El:=iter nm3 (fun st' K'=>exec X (cdp [1,1,0,1,0,0] bd) .d st' K' (Eblk 0 (cutK nm2 Kb2) (fun _ _=>none)) RR) n
noncomputable def ct1:Kont U El:=fun st=>exec X (cdp [1,1] bd) (.seq (some nm2) (.seq none .d (.block (.loop nm3 .d))) .d) st RR (fun _ _=>none) RR
noncomputable def ct2:Kont U El:=fun st=>exec X (cdp [1,1,1] bd) .d st RR (fun _ _=>none) RR
theorem P0 (a b):exec X (cdp [] bd) (.seq none .d (.seq (some nm1) .d (.seq (some nm2) (.seq none .d (.block (.loop nm3 .d))) .d))) (fr0 a b) RR (fun _ _=>none) RR=sh0 a b (fun y0 y1 y2 y3 y4 y5 y6 y7=>(hid ct1) (fr1 y0 y1 y2 y3 y4 y5 y6 y7)):=by kernel_rfl
theorem P1 (cA aA dA eA fA bA gA hA):ct1 (fr1 cA aA dA eA fA bA gA hA)=sh1 cA aA dA eA fA bA gA hA (fun y0 y1 y2 y3 y4 y5 y6 y7 y8=>(hid (it3 (hid ct2) 100000)) (fr3 y0 y1 y2 y3 y4 y5 y6 y7 y8)):=by kernel_rfl
theorem P2:ct2 (fr2)=sh2:=by kernel_rfl
theorem P3 (i5 cA aA dA eA fA bA gA hA) (Kb2 Kb3:Kont U El):exec X (cdp [1,1,0,1,0,0] bd) .d (fr3 i5 cA aA dA eA fA bA gA hA) (cutK nm3 Kb3) (Eblk 0 (cutK nm2 Kb2) (fun _ _=>none)) RR=sh3 i5 cA aA dA eA fA bA gA hA (Kb2 (fr2)) (fun y0 y1 y2 y3 y4 y5 y6 y7 y8=>Kb3 (fr3 y0 y1 y2 y3 y4 y5 y6 y7 y8)):=by kernel_rfl
noncomputable def f2:R:=sh2
noncomputable def f3:Nat→Y3
 | 0=>fun _ _ _ _ _ _ _ _ _=>none
 | n+1=>fun i5 cA aA dA eA fA bA gA hA=>sh3 i5 cA aA dA eA fA bA gA hA f2 (f3 n)
noncomputable def f1 (cA:List UInt8) (aA:List Cnd) (dA:List UInt8) (eA:Int) (fA:List UInt8) (bA:List Cnd) (gA:List UInt8) (hA:Int):R:=sh1 cA aA dA eA fA bA gA hA (f3 100000)
noncomputable def f0 (a:Rule) (b:Rule):R:=sh0 a b f1
theorem T2:(hid ct2) (fr2)=f2:=by
 refine (congrFun (hid_eq _) _).trans <| (P2).trans ?_
 show _=sh2
 rfl
theorem T3:∀ (n:Nat),∀ i5 cA aA dA eA fA bA gA hA,it3 (hid ct2) n (fr3 i5 cA aA dA eA fA bA gA hA)=f3 n i5 cA aA dA eA fA bA gA hA:=by
  intro n
  induction n with
  | zero=>intros; rfl
  | succ n ih =>
    intro i5 cA aA dA eA fA bA gA hA
    refine (P3 i5 cA aA dA eA fA bA gA hA (hid ct2) (it3 (hid ct2) n)).trans ?_
    show _=sh3 i5 cA aA dA eA fA bA gA hA f2 (f3 n)
    simp only [T2,ih]
theorem H3 (i5 cA aA dA eA fA bA gA hA):hid (it3 (hid ct2) 100000) (fr3 i5 cA aA dA eA fA bA gA hA)=f3 100000 i5 cA aA dA eA fA bA gA hA:=(congrFun (hid_eq _) _).trans (T3 100000 i5 cA aA dA eA fA bA gA hA)
theorem T1 (cA aA dA eA fA bA gA hA):(hid ct1) (fr1 cA aA dA eA fA bA gA hA)=f1 cA aA dA eA fA bA gA hA:=by
 refine (congrFun (hid_eq _) _).trans <| (P1 cA aA dA eA fA bA gA hA).trans ?_
 show _=sh1 cA aA dA eA fA bA gA hA (f3 100000)
 simp only [H3]
theorem T0 (a b):exec X bd (.seq none .d (.seq (some nm1) .d (.seq (some nm2) (.seq none .d (.block (.loop nm3 .d))) .d))) (fr0 a b) RR (fun _ _=>none) RR=f0 a b:=by
 refine (P0 a b).trans ?_
 show _=sh0 a b f1
 simp only [T1]
theorem run (a b):runFn X bd (.seq none .d (.seq (some nm1) .d (.seq (some nm2) (.seq none .d (.block (.loop nm3 .d))) .d))) nmR [4] [] [(.agg [(.str a.rn),(.lst .cnd a.rw),(.str a.rl),(.int .i64 a.rs)]),(.agg [(.str b.rn),(.lst .cnd b.rw),(.str b.rl),(.int .i64 b.rs)])]=f0 a b:=T0 a b
theorem loop (a b:Rule):∀ (n i:Nat),a.rw.length=b.rw.length→a.rw.length≤90000→a.rw.length < n+i→i≤a.rw.length→f3 n (i:Int) a.rn a.rw a.rl a.rs b.rn b.rw b.rl b.rs=outB (eqL sameC (a.rw.drop i) (b.rw.drop i)):=by
  intro n
  induction n with
  | zero=>intro i h1 h2 h3 h4; omega
  | succ n ih =>
    intro i h1 h2 h3 h4
    show sh3 (i:Int) a.rn a.rw a.rl a.rs b.rn b.rw b.rl b.rs f2 (f3 n)=_
    unfold sh3
    by_cases hi:i < a.rw.length
    · have hj : i < b.rw.length := by omega
      rw [iltT (by simp; omega),inbT hi,inbT hj,toNat_nat,getD_lt hi,getD_lt hj,drop_lt hi,drop_lt hj,wrapS i (by omega),ih (i+1) h1 h2 (by omega) hi]
      simp only [condT,chkT,eqL]
      show condB (!(sameC a.rw[i] b.rw[i])) (outB false) _=_
      cases sameC a.rw[i] b.rw[i]<;>rfl
    · have e1 : i = a.rw.length := by omega
      subst e1
      rw [iltF (by simp),List.drop_length,h1,List.drop_length]
      rfl
theorem f0_eq (a b : Rule) (h : nle (List.length (Rule.rw a)) 90000 = true) : f0 a b = outB (sameR a b) := by
  show sh0 a b f1=_
  unfold sh0 sameR eqLen
  have key:a.rw.length=b.rw.length→f1 a.rn a.rw a.rl a.rs b.rn b.rw b.rl b.rs=outB (eqL sameC a.rw b.rw):=fun e=>loop a b 100000 0 e (nleI h) (by have:=nleI h; omega) (by omega)
  cases h1:a.rn == b.rn with
  | false=>rfl
  | true =>
    cases h2:a.rl == b.rl with
    | false=>rfl
    | true =>
      cases h3:a.rs == b.rs with
      | false=>rw [show (a.rs != b.rs)=true by simp [bne,h3]]; rfl
      | true =>
        rw [show (a.rs != b.rs)=false by simp [bne,h3]]
        by_cases e:a.rw.length=b.rw.length
        · rw [bneF e, key e]
          rfl
        · rw [bneT e]
          rfl
theorem ok:CtxOk Tryz.prog X:=ctxOk tab spN dpN
theorem okM:MOk Tryz.prog X:=fun g sp h=>by cases h
theorem spec (a:Rule) (b:Rule) (h:(nle (List.length (Rule.rw a)) 90000)=true):CallSpec Tryz.prog E 26 [(.agg [(.str a.rn),(.lst .cnd a.rw),(.str a.rl),(.int .i64 a.rs)]),(.agg [(.str b.rn),(.lst .cnd b.rw),(.str b.rl),(.int .i64 b.rs)])] (.bool (sameR a b)) [] :=
 rfs ok okM Tryz.call26 Tryz.func26 ((run a b).trans (f0_eq a b h))
noncomputable def sp:Sp U El:=fun args k=>match args with
 | [.agg [.str a_rn,.lst .cnd a_rw,.str a_rl,.int .i64 a_rs],.agg [.str b_rn,.lst .cnd b_rw,.str b_rl,.int .i64 b_rs]]=>chk (nle (List.length (Rule.rw (⟨a_rn,a_rw,a_rl,a_rs⟩:Rule))) 90000) (k (.bool (sameR (⟨a_rn,a_rw,a_rl,a_rs⟩:Rule) (⟨b_rn,b_rw,b_rl,b_rs⟩:Rule))) [])
 | _=>none
theorem spOk:SpOk Tryz.prog E 26 sp:=⟨fun vs=>by unfold sp;split;exact det_c _ _ _;exact ⟨none,fun _=>rfl⟩,fun vs k r h=>by unfold sp at h;split at h;(obtain ⟨h1,h2⟩:=chk_some h;exact ⟨_,_,spec ⟨_,_,_,_⟩ ⟨_,_,_,_⟩ h1,h2⟩);cases h⟩
end rsameR
namespace rsame
noncomputable def bd:Code:=(Tryz.f14.body).getD .skip
noncomputable def X:Ctx U El:=⟨E,tds,zeros,eqs,specOf [(26,rsameR.sp)],100000,27,dspecOf [],fun _=>none,fun _=>none⟩
noncomputable def nmR:Norm U:=⟨[],[4],[],[],[],[],[]⟩
noncomputable def RR:Kont U El:=fun st=>normK nmR st (retFin [4] [])
noncomputable def nm1:Norm U:=⟨[],[],[],[],[],[],[]⟩
noncomputable def nm2:Norm U:=⟨[],[0,1,5],[],[],[],[],[]⟩
abbrev Y1:=R
abbrev Y2:=(List Rule)→(List Rule)→Int→R
noncomputable def fr0 (a:List Rule) (b:List Rule):St U El:=⟨[(0,(.lst .rule a)),(1,(.lst .rule b))],[]⟩
noncomputable def fr1:St U El:=⟨[],[]⟩
noncomputable def fr2 (a0:List Rule) (b1:List Rule) (i5:Int):St U El:=⟨[(0,(.lst .rule a0)),(1,(.lst .rule b1)),(5,(.int .i64 i5))],[]⟩
noncomputable def sh0 (a:List Rule) (b:List Rule) (k2:Y2):R :=
 condB ((Int.ofNat (List.length a)) != (Int.ofNat (List.length b))) (some ((.bool false),[])) (k2 a b (0:Int))
noncomputable def sh1:R :=
 some ((.bool true),[])
noncomputable def sh2 (a0:List Rule) (b1:List Rule) (i5:Int) (k1:Y1) (k2:Y2):R :=
 condB (ilt i5 (Int.ofNat (List.length a0))) (chk (inb i5 (List.length a0)) (chk (inb i5 (List.length b1)) (chk (nle (List.length (Rule.rw (List.getD a0 (Int.toNat i5) d_rule))) 90000) (condB (!(sameR (List.getD a0 (Int.toNat i5) d_rule) (List.getD b1 (Int.toNat i5) d_rule))) (some ((.bool false),[])) (k2 a0 b1 (IntKind.wrap .i64 (i5+(1:Int)))))))) (k1)
noncomputable def it2 (Kb1:Kont U El) (n:Nat):Kont U El:=iter nm2 (fun st' K'=>exec X (cdp [1,1,0,1,0,0] bd) .d st' K' (Eblk 0 (cutK nm1 Kb1) (fun _ _=>none)) RR) n
noncomputable def ct1:Kont U El:=fun st=>exec X (cdp [1,1,1] bd) .d st RR (fun _ _=>none) RR
theorem P0 (a b):exec X (cdp [] bd) (.seq none .d (.seq none .d (.seq (some nm1) (.seq none .d (.block (.loop nm2 .d))) .d))) (fr0 a b) RR (fun _ _=>none) RR=sh0 a b (fun y0 y1 y2=>(hid (it2 (hid ct1) 100000)) (fr2 y0 y1 y2)):=by kernel_rfl
theorem P1:ct1 (fr1)=sh1:=by kernel_rfl
theorem P2 (a0 b1 i5) (Kb1 Kb2:Kont U El):exec X (cdp [1,1,0,1,0,0] bd) .d (fr2 a0 b1 i5) (cutK nm2 Kb2) (Eblk 0 (cutK nm1 Kb1) (fun _ _=>none)) RR=sh2 a0 b1 i5 (Kb1 (fr1)) (fun y0 y1 y2=>Kb2 (fr2 y0 y1 y2)):=by kernel_rfl
noncomputable def f1:R:=sh1
noncomputable def f2:Nat→Y2
 | 0=>fun _ _ _=>none
 | n+1=>fun a0 b1 i5=>sh2 a0 b1 i5 f1 (f2 n)
noncomputable def f0 (a:List Rule) (b:List Rule):R:=sh0 a b (f2 100000)
theorem T1:(hid ct1) (fr1)=f1:=by
 refine (congrFun (hid_eq _) _).trans <| (P1).trans ?_
 show _=sh1
 rfl
theorem T2:∀ (n:Nat),∀ a0 b1 i5,it2 (hid ct1) n (fr2 a0 b1 i5)=f2 n a0 b1 i5:=by
  intro n
  induction n with
  | zero=>intros; rfl
  | succ n ih =>
    intro a0 b1 i5
    refine (P2 a0 b1 i5 (hid ct1) (it2 (hid ct1) n)).trans ?_
    show _=sh2 a0 b1 i5 f1 (f2 n)
    simp only [T1,ih]
theorem H2 (a0 b1 i5):hid (it2 (hid ct1) 100000) (fr2 a0 b1 i5)=f2 100000 a0 b1 i5:=(congrFun (hid_eq _) _).trans (T2 100000 a0 b1 i5)
theorem T0 (a b):exec X bd (.seq none .d (.seq none .d (.seq (some nm1) (.seq none .d (.block (.loop nm2 .d))) .d))) (fr0 a b) RR (fun _ _=>none) RR=f0 a b:=by
 refine (P0 a b).trans ?_
 show _=sh0 a b (f2 100000)
 simp only [H2]
theorem run (a b):runFn X bd (.seq none .d (.seq none .d (.seq (some nm1) (.seq none .d (.block (.loop nm2 .d))) .d))) nmR [4] [] [(.lst .rule a),(.lst .rule b)]=f0 a b:=T0 a b
theorem loop (a b:List Rule) (hw:∀ r∈a,r.rw.length≤90000):∀ (n i:Nat),a.length=b.length→a.length≤90000→a.length < n+i→i≤a.length→f2 n a b (i:Int)=outB (eqL sameR (a.drop i) (b.drop i)):=by
  intro n
  induction n with
  | zero=>intro i h1 h2 h3 h4; omega
  | succ n ih =>
    intro i h1 h2 h3 h4
    show sh2 a b (i:Int) f1 (f2 n)=_
    unfold sh2
    by_cases hi:i < a.length
    · have hj : i < b.length := by omega
      rw [iltT (by simp; omega),inbT hi,inbT hj,toNat_nat,getD_lt hi,getD_lt hj,drop_lt hi,drop_lt hj,wrapS i (by omega),ih (i+1) h1 h2 (by omega) hi,nleT (hw _ (List.getElem_mem hi))]
      simp only [condT,chkT,eqL]
      cases sameR a[i] b[i]<;>rfl
    · have e1 : i = a.length := by omega
      subst e1
      rw [iltF (by simp),List.drop_length,h1,List.drop_length]
      rfl
theorem f0_eq (a b:List Rule) (h:okR a=true):f0 a b=outB (sameL a b):=by
 simp only [okR,Bool.and_eq_true] at h
 have hl:=nleI h.1
 show sh0 a b (f2 100000)=_
 unfold sh0 sameL eqLen
 by_cases e:a.length=b.length
 ·rw [bneF e]
  exact loop a b (fun r hr=>nleI (List.all_eq_true.1 h.2 r hr)) 100000 0 e hl (by omega) (by omega)
 ·rw [bneT e]
  rfl
theorem ok:CtxOk Tryz.prog X:=ctxOk tab (spC rsameR.spOk spN) dpN
theorem okM:MOk Tryz.prog X:=fun g sp h=>by cases h
theorem spec (a:List Rule) (b:List Rule) (h:(okR a)=true):CallSpec Tryz.prog E 14 [(.lst .rule a),(.lst .rule b)] (.bool (sameL a b)) [] :=
 rfs ok okM Tryz.call14 Tryz.func14 ((run a b).trans (f0_eq a b h))
noncomputable def sp:Sp U El:=fun args k=>match args with
 | [.lst .rule a,.lst .rule b]=>chk (okR a) (k (.bool (sameL a b)) [])
 | _=>none
theorem spOk:SpOk Tryz.prog E 14 sp:=⟨fun vs=>by unfold sp;split;exact det_c _ _ _;exact ⟨none,fun _=>rfl⟩,fun vs k r h=>by unfold sp at h;split at h;(obtain ⟨h1,h2⟩:=chk_some h;exact ⟨_,_,spec _ _ h1,h2⟩);cases h⟩
end rsame
end Go.Proofs.YtlkfbblapimhoaaGreatDoor
