/- Compare, the orders of defects, Right, Valid. -/
import Derived.Test.YtnhmhcobpbilhaaGreatDoorVA
import Derived.IntWalk
namespace Go.Proofs.YtnhmhcobpbilhaaGreatDoor
variable [Drw]
set_option linter.unusedSectionVars false
set_option linter.unusedSimpArgs false
set_option linter.unusedVariables false
set_option maxRecDepth 100000
noncomputable def compareZ (d e:Df):Int:=orZ [cmpZ d.a e.a,cmpS d.c e.c,cmpZ d.l e.l,cmpZ d.s e.s]
namespace nanInt
noncomputable def bd:Code:=(Tryz.f70.body).getD .skip
noncomputable def X:Ctx U El:=⟨E,tds,zeros,eqs,specOf [],100000,6,dspecOf [],fun _=>none⟩
noncomputable def nmR:Norm U:=⟨[],[2],[],[],[],[],[]⟩
noncomputable def RR:Kont U El:=fun st=>normK nmR st (retFin [2] [])
noncomputable def fr0 (a:Int):St U El:=⟨[(0,(.int .i64 a))],[]⟩
noncomputable def sh0 (a:Int):R :=
  some ((.bool (a != a)),[])
theorem P0 (a):exec X (cdp [] bd) .d (fr0 a) RR (fun _ _=>none) RR=sh0 a:=by kernel_rfl
noncomputable def f0 (a:Int):R:=sh0 a
theorem T0 (a):exec X bd .d (fr0 a) RR (fun _ _=>none) RR=f0 a:=by
  refine (P0 a).trans ?_
  show _=sh0 a
  rfl
theorem run (a):runFn X bd .d nmR [2] [] [(.int .i64 a)]=f0 a:=T0 a
theorem f0_eq (a:Int):f0 a=some (.bool false,[]):=by
  unfold f0 sh0
  cases h:a != a
  · rfl
  · simp at h
theorem ok:CtxOk Tryz.prog X:=ctxOk tab spN dpN
theorem okM:MOk Tryz.prog X:=fun g sp h=>by cases h
theorem spec (a:Int):CallSpec Tryz.prog E 70 [(.int .i64 a)] (.bool (false)) [] :=
  runFn_sound ok okM Tryz.call70 Tryz.func70 (by kernel_rfl) (by kernel_rfl) (by kernel_rfl) (by show 1≤6; decide) (by decide) (by rfl) ((run a).trans (f0_eq a))
noncomputable def sp:Sp U El:=fun args k=>match args with
  | [.int .i64 a]=>k (.bool (false)) []
  | _=>none
theorem spOk:SpOk Tryz.prog E 70 sp where
  det:=fun vs=>by
    unfold sp
    split
    · exact ⟨some (_,_),fun _=>rfl⟩
    · exact ⟨none,fun _=>rfl⟩
  ok:=fun vs k r h=>by
    unfold sp at h
    split at h
    · exact ⟨_,_,spec _,h⟩
    · cases h
end nanInt
namespace nanStr
noncomputable def bd:Code:=(Tryz.f71.body).getD .skip
noncomputable def X:Ctx U El:=⟨E,tds,zeros,eqs,specOf [],100000,6,dspecOf [],fun _=>none⟩
noncomputable def nmR:Norm U:=⟨[],[2],[],[],[],[],[]⟩
noncomputable def RR:Kont U El:=fun st=>normK nmR st (retFin [2] [])
noncomputable def fr0 (a:List UInt8):St U El:=⟨[(0,(.str a))],[]⟩
noncomputable def sh0 (a:List UInt8):R :=
  some ((.bool (!(a == a))),[])
theorem P0 (a):exec X (cdp [] bd) .d (fr0 a) RR (fun _ _=>none) RR=sh0 a:=by kernel_rfl
noncomputable def f0 (a:List UInt8):R:=sh0 a
theorem T0 (a):exec X bd .d (fr0 a) RR (fun _ _=>none) RR=f0 a:=by
  refine (P0 a).trans ?_
  show _=sh0 a
  rfl
theorem run (a):runFn X bd .d nmR [2] [] [(.str a)]=f0 a:=T0 a
theorem f0_eq (a:List UInt8):f0 a=some (.bool false,[]):=by
  unfold f0 sh0
  cases h : !(a == a)
  · rfl
  · simp at h
theorem ok:CtxOk Tryz.prog X:=ctxOk tab spN dpN
theorem okM:MOk Tryz.prog X:=fun g sp h=>by cases h
theorem spec (a:List UInt8):CallSpec Tryz.prog E 71 [(.str a)] (.bool (false)) [] :=
  runFn_sound ok okM Tryz.call71 Tryz.func71 (by kernel_rfl) (by kernel_rfl) (by kernel_rfl) (by show 1≤6; decide) (by decide) (by rfl) ((run a).trans (f0_eq a))
noncomputable def sp:Sp U El:=fun args k=>match args with
  | [.str a]=>k (.bool (false)) []
  | _=>none
theorem spOk:SpOk Tryz.prog E 71 sp where
  det:=fun vs=>by
    unfold sp
    split
    · exact ⟨some (_,_),fun _=>rfl⟩
    · exact ⟨none,fun _=>rfl⟩
  ok:=fun vs k r h=>by
    unfold sp at h
    split at h
    · exact ⟨_,_,spec _,h⟩
    · cases h
end nanStr
namespace cmpInt
noncomputable def bd:Code:=(Tryz.f52.body).getD .skip
noncomputable def X:Ctx U El:=⟨E,tds,zeros,eqs,specOf [(70,nanInt.sp)],100000,20,dspecOf [],fun _=>none⟩
noncomputable def nmR:Norm U:=⟨[],[4],[],[],[],[],[]⟩
noncomputable def RR:Kont U El:=fun st=>normK nmR st (retFin [4] [])
noncomputable def fr0 (a:Int) (b:Int):St U El:=⟨[(0,(.int .i64 a)),(1,(.int .i64 b))],[]⟩
noncomputable def sh0 (a:Int) (b:Int):R :=
  condB (false) (condB (false) (some ((.int .i64 (0:Int)),[])) (some ((.int .i64 (-1:Int)),[]))) (condB (false) (some ((.int .i64 (1:Int)),[])) (condB (ilt a b) (some ((.int .i64 (-1:Int)),[])) (condB (ilt b a) (some ((.int .i64 (1:Int)),[])) (some ((.int .i64 (0:Int)),[])))))
theorem P0 (a b):exec X (cdp [] bd) .d (fr0 a b) RR (fun _ _=>none) RR=sh0 a b:=by kernel_rfl
noncomputable def f0 (a:Int) (b:Int):R:=sh0 a b
theorem T0 (a b):exec X bd .d (fr0 a b) RR (fun _ _=>none) RR=f0 a b:=by
  refine (P0 a b).trans ?_
  show _=sh0 a b
  rfl
theorem run (a b):runFn X bd .d nmR [4] [] [(.int .i64 a),(.int .i64 b)]=f0 a b:=T0 a b
theorem f0_eq (a b:Int):f0 a b=some (.int .i64 (cmpZ a b),[]):=by
  unfold f0 sh0 cmpZ
  cases h1:ilt a b<;>cases h2:ilt b a<;>rfl
theorem ok:CtxOk Tryz.prog X:=ctxOk tab (spC nanInt.spOk spN) dpN
theorem okM:MOk Tryz.prog X:=fun g sp h=>by cases h
theorem spec (a:Int) (b:Int):CallSpec Tryz.prog E 52 [(.int .i64 a),(.int .i64 b)] (.int .i64 (cmpZ a b)) [] :=
  runFn_sound ok okM Tryz.call52 Tryz.func52 (by kernel_rfl) (by kernel_rfl) (by kernel_rfl) (by show 2≤20; decide) (by decide) (by rfl) ((run a b).trans (f0_eq a b))
noncomputable def sp:Sp U El:=fun args k=>match args with
  | [.int .i64 a,.int .i64 b]=>k (.int .i64 (cmpZ a b)) []
  | _=>none
theorem spOk:SpOk Tryz.prog E 52 sp where
  det:=fun vs=>by
    unfold sp
    split
    · exact ⟨some (_,_),fun _=>rfl⟩
    · exact ⟨none,fun _=>rfl⟩
  ok:=fun vs k r h=>by
    unfold sp at h
    split at h
    · exact ⟨_,_,spec _ _,h⟩
    · cases h
end cmpInt
namespace cmpStr
noncomputable def bd:Code:=(Tryz.f53.body).getD .skip
noncomputable def X:Ctx U El:=⟨E,tds,zeros,eqs,specOf [(71,nanStr.sp)],100000,20,dspecOf [],fun _=>none⟩
noncomputable def nmR:Norm U:=⟨[],[4],[],[],[],[],[]⟩
noncomputable def RR:Kont U El:=fun st=>normK nmR st (retFin [4] [])
noncomputable def fr0 (a:List UInt8) (b:List UInt8):St U El:=⟨[(0,(.str a)),(1,(.str b))],[]⟩
noncomputable def sh0 (a:List UInt8) (b:List UInt8):R :=
  condB (false) (condB (false) (some ((.int .i64 (0:Int)),[])) (some ((.int .i64 (-1:Int)),[]))) (condB (false) (some ((.int .i64 (1:Int)),[])) (condB (slt a b) (some ((.int .i64 (-1:Int)),[])) (condB (!(slt a b||(a == b))) (some ((.int .i64 (1:Int)),[])) (some ((.int .i64 (0:Int)),[])))))
theorem P0 (a b):exec X (cdp [] bd) .d (fr0 a b) RR (fun _ _=>none) RR=sh0 a b:=by kernel_rfl
noncomputable def f0 (a:List UInt8) (b:List UInt8):R:=sh0 a b
theorem T0 (a b):exec X bd .d (fr0 a b) RR (fun _ _=>none) RR=f0 a b:=by
  refine (P0 a b).trans ?_
  show _=sh0 a b
  rfl
theorem run (a b):runFn X bd .d nmR [4] [] [(.str a),(.str b)]=f0 a b:=T0 a b
theorem f0_eq (a b:List UInt8):f0 a b=some (.int .i64 (cmpS a b),[]):=by
  unfold f0 sh0 cmpS
  cases h1:slt a b<;>cases h2:a == b<;>rfl
theorem ok:CtxOk Tryz.prog X:=ctxOk tab (spC nanStr.spOk spN) dpN
theorem okM:MOk Tryz.prog X:=fun g sp h=>by cases h
theorem spec (a:List UInt8) (b:List UInt8):CallSpec Tryz.prog E 53 [(.str a),(.str b)] (.int .i64 (cmpS a b)) [] :=
  runFn_sound ok okM Tryz.call53 Tryz.func53 (by kernel_rfl) (by kernel_rfl) (by kernel_rfl) (by show 2≤20; decide) (by decide) (by rfl) ((run a b).trans (f0_eq a b))
noncomputable def sp:Sp U El:=fun args k=>match args with
  | [.str a,.str b]=>k (.int .i64 (cmpS a b)) []
  | _=>none
theorem spOk:SpOk Tryz.prog E 53 sp where
  det:=fun vs=>by
    unfold sp
    split
    · exact ⟨some (_,_),fun _=>rfl⟩
    · exact ⟨none,fun _=>rfl⟩
  ok:=fun vs k r h=>by
    unfold sp at h
    split at h
    · exact ⟨_,_,spec _ _,h⟩
    · cases h
end cmpStr
namespace orInt
noncomputable def bd:Code:=(Tryz.f51.body).getD .skip
noncomputable def X:Ctx U El:=⟨E,tds,zeros,eqs,specOf [],100000,18,dspecOf [],fun _=>none⟩
noncomputable def nmR:Norm U:=⟨[],[2],[],[],[],[],[]⟩
noncomputable def RR:Kont U El:=fun st=>normK nmR st (retFin [2] [])
noncomputable def nm1:Norm U:=⟨[],[3],[],[],[],[],[]⟩
noncomputable def nm2:Norm U:=⟨[],[3,6,7,8],[],[],[],[],[]⟩
abbrev Y1:=Int→R
abbrev Y2:=Int→(List Int)→Int→Int→R
noncomputable def fr0 (l:List Int):St U El:=⟨[(0,(.lst .int l))],[]⟩
noncomputable def fr1 (aA:Int):St U El:=⟨[(3,(.int .i64 aA))],[]⟩
noncomputable def fr2 (aA:Int) (x6:List Int) (x7:Int) (x8:Int):St U El:=⟨[(3,(.int .i64 aA)),(6,(.lst .int x6)),(7,(.int .i64 x7)),(8,(.int .i64 x8))],[]⟩
noncomputable def sh0 (l:List Int) (k2:Y2):R :=
  k2 (0:Int) l (Int.ofNat (List.length l)) (0:Int)
noncomputable def sh1 (aA:Int):R :=
  some ((.int .i64 aA),[])
noncomputable def sh2 (aA:Int) (x6:List Int) (x7:Int) (x8:Int) (k1:Y1) (k2:Y2):R :=
  condB (ilt x8 x7) (chk (inb x8 (List.length x6)) (condB ((List.getD x6 (Int.toNat x8) d_int) != aA) (some ((.int .i64 (List.getD x6 (Int.toNat x8) d_int)),[])) (k2 aA x6 x7 (IntKind.wrap .i64 (x8+(1:Int)))))) (k1 aA)
noncomputable def it2 (Kb1:Kont U El) (n:Nat):Kont U El:=iter nm2 (fun st' K'=>exec X (cdp [1,1,0,1,0,0] bd) .d st' K' (Eblk 0 (cutK nm1 Kb1) (fun _ _=>none)) RR) n
noncomputable def ct1:Kont U El:=fun st=>exec X (cdp [1,1,1] bd) .d st RR (fun _ _=>none) RR
theorem P0 (l):exec X (cdp [] bd) (.seq none .d (.seq none .d (.seq (some nm1) (.seq none .d (.block (.loop nm2 .d))) .d))) (fr0 l) RR (fun _ _=>none) RR=sh0 l (fun y0 y1 y2 y3=>(hid (it2 (hid ct1) 100000)) (fr2 y0 y1 y2 y3)):=by kernel_rfl
theorem P1 (aA):ct1 (fr1 aA)=sh1 aA:=by kernel_rfl
theorem P2 (aA x6 x7 x8) (Kb1 Kb2:Kont U El):exec X (cdp [1,1,0,1,0,0] bd) .d (fr2 aA x6 x7 x8) (cutK nm2 Kb2) (Eblk 0 (cutK nm1 Kb1) (fun _ _=>none)) RR=sh2 aA x6 x7 x8 (fun y0=>Kb1 (fr1 y0)) (fun y0 y1 y2 y3=>Kb2 (fr2 y0 y1 y2 y3)):=by kernel_rfl
noncomputable def f1 (aA:Int):R:=sh1 aA
noncomputable def f2:Nat→Y2
  | 0=>fun _ _ _ _=>none
  | n+1=>fun aA x6 x7 x8=>sh2 aA x6 x7 x8 f1 (f2 n)
noncomputable def f0 (l:List Int):R:=sh0 l (f2 100000)
theorem T1 (aA):(hid ct1) (fr1 aA)=f1 aA:=by
  refine (congrFun (hid_eq _) _).trans <| (P1 aA).trans ?_
  show _=sh1 aA
  rfl
theorem T2:∀ (n:Nat),∀ aA x6 x7 x8,it2 (hid ct1) n (fr2 aA x6 x7 x8)=f2 n aA x6 x7 x8:=by
  intro n
  induction n with
  | zero=>intros; rfl
  | succ n ih =>
    intro aA x6 x7 x8
    refine (P2 aA x6 x7 x8 (hid ct1) (it2 (hid ct1) n)).trans ?_
    show _=sh2 aA x6 x7 x8 f1 (f2 n)
    simp only [T1,ih]
theorem H2 (aA x6 x7 x8):hid (it2 (hid ct1) 100000) (fr2 aA x6 x7 x8)=f2 100000 aA x6 x7 x8:=(congrFun (hid_eq _) _).trans (T2 100000 aA x6 x7 x8)
theorem T0 (l):exec X bd (.seq none .d (.seq none .d (.seq (some nm1) (.seq none .d (.block (.loop nm2 .d))) .d))) (fr0 l) RR (fun _ _=>none) RR=f0 l:=by
  refine (P0 l).trans ?_
  show _=sh0 l (f2 100000)
  simp only [H2]
theorem run (l):runFn X bd (.seq none .d (.seq none .d (.seq (some nm1) (.seq none .d (.block (.loop nm2 .d))) .d))) nmR [2] [] [(.lst .int l)]=f0 l:=T0 l
theorem loop (l : List Int) (hl : l.length ≤ 1000) : ∀ (n i : Nat), l.length < n + i → i ≤ l.length → f2 n 0 l (Int.ofNat l.length) (i : Int) = some (.int .i64 (orZ (l.drop i)), []) := by
  intro n
  induction n with
  | zero=>intro i h1 h2; omega
  | succ n ih =>
    intro i h1 h2
    unfold f2 sh2
    by_cases h:i < l.length
    · have ex : l.drop i = l[i] :: l.drop (i + 1) := List.drop_eq_getElem_cons h
      have eg:List.getD l (Int.toNat (i:Int)) d_int=l[i]:=getD_lt h _
      rw [iltT (by simp; omega),inbT h,eg,ex]
      simp only [condB,chk,cond_true,orZ]
      cases hx:l[i] != 0
      · rw [wrapI (by omega) (by omega)]
        exact ih (i+1) (by omega) (by omega)
      · rfl
    · have : i = l.length := by omega
      subst this
      rw [iltF (by simp)]
      simp only [condB,cond_false,List.drop_length]
      rfl
theorem f0_eq (l:List Int) (h:nle l.length 1000=true):f0 l=some (.int .i64 (orZ l),[]) :=
  loop l (of_decide_eq_true h) 100000 0 (by have:=of_decide_eq_true h; omega) (by omega)
theorem ok:CtxOk Tryz.prog X:=ctxOk tab spN dpN
theorem okM:MOk Tryz.prog X:=fun g sp h=>by cases h
theorem spec (l:List Int) (h:(nle (List.length l) 1000)=true):CallSpec Tryz.prog E 51 [(.lst .int l)] (.int .i64 (orZ l)) [] :=
  runFn_sound ok okM Tryz.call51 Tryz.func51 (by kernel_rfl) (by kernel_rfl) (by kernel_rfl) (by show 1≤18; decide) (by decide) (by rfl) ((run l).trans (f0_eq l h))
noncomputable def sp:Sp U El:=fun args k=>match args with
  | [.lst .int l]=>chk (nle (List.length l) 1000) (k (.int .i64 (orZ l)) [])
  | _=>none
theorem spOk:SpOk Tryz.prog E 51 sp where
  det:=fun vs=>by
    unfold sp
    split
    · exact det_c _ _ _
    · exact ⟨none,fun _=>rfl⟩
  ok:=fun vs k r h=>by
    unfold sp at h
    split at h
    · obtain ⟨h1, h2⟩ := chk_some h
      exact ⟨_,_,spec _ h1,h2⟩
    · cases h
end orInt
namespace compare
noncomputable def bd:Code:=(Tryz.f28.body).getD .skip
noncomputable def X:Ctx U El:=⟨E,tds,zeros,eqs,specOf [(51,orInt.sp),(52,cmpInt.sp),(53,cmpStr.sp)],100000,27,dspecOf [],fun _=>none⟩
noncomputable def nmR:Norm U:=⟨[],[4],[],[],[],[],[]⟩
noncomputable def RR:Kont U El:=fun st=>normK nmR st (retFin [4] [])
noncomputable def fr0 (d:Df) (e:Df):St U El:=⟨[(0,(.agg [(.str d.c),(.int .i64 d.a),(.int .i64 d.l),(.int .i64 d.s)])),(1,(.agg [(.str e.c),(.int .i64 e.a),(.int .i64 e.l),(.int .i64 e.s)]))],[]⟩
noncomputable def sh0 (d:Df) (e:Df):R :=
  chk (nle (List.length ([(cmpZ d.a e.a),(cmpS d.c e.c),(cmpZ d.l e.l),(cmpZ d.s e.s)]:List Int)) 1000) (some ((.int .i64 (orZ ([(cmpZ d.a e.a),(cmpS d.c e.c),(cmpZ d.l e.l),(cmpZ d.s e.s)]:List Int))),[]))
theorem P0 (d e):exec X (cdp [] bd) .d (fr0 d e) RR (fun _ _=>none) RR=sh0 d e:=by kernel_rfl
noncomputable def f0 (d:Df) (e:Df):R:=sh0 d e
theorem T0 (d e):exec X bd .d (fr0 d e) RR (fun _ _=>none) RR=f0 d e:=by
  refine (P0 d e).trans ?_
  show _=sh0 d e
  rfl
theorem run (d e):runFn X bd .d nmR [4] [] [(.agg [(.str d.c),(.int .i64 d.a),(.int .i64 d.l),(.int .i64 d.s)]),(.agg [(.str e.c),(.int .i64 e.a),(.int .i64 e.l),(.int .i64 e.s)])]=f0 d e:=T0 d e
theorem f0_eq (d e:Df):f0 d e=some (.int .i64 (compareZ d e),[]):=rfl
theorem ok:CtxOk Tryz.prog X:=ctxOk tab (spC orInt.spOk (spC cmpInt.spOk (spC cmpStr.spOk spN))) dpN
theorem okM:MOk Tryz.prog X:=fun g sp h=>by cases h
theorem spec (d:Df) (e:Df):CallSpec Tryz.prog E 28 [(.agg [(.str d.c),(.int .i64 d.a),(.int .i64 d.l),(.int .i64 d.s)]),(.agg [(.str e.c),(.int .i64 e.a),(.int .i64 e.l),(.int .i64 e.s)])] (.int .i64 (compareZ d e)) [] :=
  runFn_sound ok okM Tryz.call28 Tryz.func28 (by kernel_rfl) (by kernel_rfl) (by kernel_rfl) (by show 2≤27; decide) (by decide) (by rfl) ((run d e).trans (f0_eq d e))
noncomputable def sp:Sp U El:=fun args k=>match args with
  | [.agg [.str d_c,.int .i64 d_a,.int .i64 d_l,.int .i64 d_s],.agg [.str e_c,.int .i64 e_a,.int .i64 e_l,.int .i64 e_s]]=>k (.int .i64 (compareZ (⟨d_c,d_a,d_l,d_s⟩:Df) (⟨e_c,e_a,e_l,e_s⟩:Df))) []
  | _=>none
theorem spOk:SpOk Tryz.prog E 28 sp where
  det:=fun vs=>by
    unfold sp
    split
    · exact ⟨some (_,_),fun _=>rfl⟩
    · exact ⟨none,fun _=>rfl⟩
  ok:=fun vs k r h=>by
    unfold sp at h
    split at h
    · exact ⟨_,_,spec ⟨_,_,_,_⟩ ⟨_,_,_,_⟩,h⟩
    · cases h
end compare
end Go.Proofs.YtnhmhcobpbilhaaGreatDoor
