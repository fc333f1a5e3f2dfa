/- The orders of messages; equality, searches. -/
import Derived.Test.YtkeplmpcijigaaaVA
namespace Go.Proofs.Ytkeplmpcijigaaa
variable [Drw]
set_option linter.unusedSectionVars false
set_option linter.unusedSimpArgs false
set_option linter.unusedVariables false
set_option maxRecDepth 100000
noncomputable def eqM (x y:Msg):Bool:=(x.nd == y.nd)&&((x.no == y.no)&&((x.at_ == y.at_)&&((x.ar == y.ar)&&((x.lv == y.lv)&&true))))
theorem eqM_iff {x y:Msg}:eqM x y=true↔x=y:=by
  unfold eqM
  constructor
  · intro h
    simp only [Bool.and_eq_true,beq_iff_eq,and_true] at h
    obtain ⟨h1,h2,h3,h4,h5⟩:=h
    cases x; cases y
    simp only at h1 h2 h3 h4 h5
    rw [h1,h2,h3,h4,h5]
  · rintro rfl; simp
noncomputable def compareZ (a b:Msg):Int:=orZ [cmpZ a.at_ b.at_,cmpS a.nd b.nd,cmpZ a.no b.no]
noncomputable def beforeB (a b:Msg):Bool:=bif a.at_ != b.at_ then ilt a.at_ b.at_ else bif !(a.nd == b.nd) then slt a.nd b.nd else ilt a.no b.no
noncomputable def eqLM:List Msg→List Msg→Bool
  | [],[]=>true
  | x :: a,y :: b=>eqM x y&&eqLM a b
  | _,_=>false
noncomputable def eqL (a b:List Msg):Bool:=bif (Int.ofNat a.length) != (Int.ofNat b.length) then false else eqLM a b
theorem eqLM_iff:∀ {a b:List Msg},eqLM a b=true↔a=b:=by
  intro a
  induction a with
  | nil=>intro b; cases b<;>simp [eqLM]
  | cons x a ih =>
    intro b
    cases b with
    | nil=>simp [eqLM]
    | cons y b=>simp only [eqLM,Bool.and_eq_true,ih,eqM_iff,List.cons.injEq]
theorem eqL_iff {a b:List Msg}:eqL a b=true↔a=b:=by
  unfold eqL
  cases hb:(Int.ofNat a.length) != (Int.ofNat b.length)
  · exact eqLM_iff
  · constructor
    · intro h; cases h
    · rintro rfl; rw [bne_self_eq_false] at hb; cases hb
theorem eqL_self (a:List Msg):eqL a a=true:=eqL_iff.2 rfl
noncomputable def hasB (l:List Msg) (s:List UInt8) (n:Int):Bool:=l.any fun m=>(m.nd == s)&&(m.no == n)
namespace nanInt
noncomputable def bd:Code:=(Try.f80.body).getD .skip
noncomputable def X:Ctx U El:=⟨E,tds,zeros,eqs,specOf [],100000,6,dspecOf [],fun _=>none,fun _=>none⟩
noncomputable def nmR:Norm U:=⟨[],[2],[],[],[],[],[]⟩
noncomputable def RR:Kont U El:=fun st=>normK nmR st (retFin [2] [])
noncomputable def fr0 (a:Int):St U El:=⟨[(0,(.int .i64 a))],[]⟩
noncomputable def sh0 (a:Int):R :=
  some ((.bool (a != a)),[])
theorem P0 (a):exec X (cdp [] bd) .d (fr0 a) RR (fun _ _=>none) RR=sh0 a:=by kernel_rfl
noncomputable def f0 (a:Int):R:=sh0 a
theorem T0 (a):exec X bd .d (fr0 a) RR (fun _ _=>none) RR=f0 a:=by
  refine (P0 a).trans ?_
  show _=sh0 a
  rfl
theorem run (a):runFn X bd .d nmR [2] [] [(.int .i64 a)]=f0 a:=T0 a
theorem f0_eq (a:Int):f0 a=some (.bool false,[]):=by
  unfold f0 sh0
  cases h:a != a
  · rfl
  · simp at h
theorem ok:CtxOk Try.prog X:=ctxOk tab spN dpN
theorem okM:MOk Try.prog X:=fun g sp h=>by cases h
theorem spec (a:Int):CallSpec Try.prog E 80 [(.int .i64 a)] (.bool (false)) [] :=
  runFn_sound ok okM Try.call80 Try.func80 (by kernel_rfl) (by kernel_rfl) (by kernel_rfl) (by show 1≤6; decide) (by decide) (by rfl) ((run a).trans (f0_eq a))
noncomputable def sp:Sp U El:=fun args k=>match args with
  | [.int .i64 a]=>k (.bool (false)) []
  | _=>none
theorem spOk:SpOk Try.prog E 80 sp where
  det:=fun vs=>by
    unfold sp
    split
    · exact ⟨some (_,_),fun _=>rfl⟩
    · exact ⟨none,fun _=>rfl⟩
  ok:=fun vs k r h=>by
    unfold sp at h
    split at h
    · exact ⟨_,_,spec _,h⟩
    · cases h
end nanInt
namespace nanStr
noncomputable def bd:Code:=(Try.f81.body).getD .skip
noncomputable def X:Ctx U El:=⟨E,tds,zeros,eqs,specOf [],100000,6,dspecOf [],fun _=>none,fun _=>none⟩
noncomputable def nmR:Norm U:=⟨[],[2],[],[],[],[],[]⟩
noncomputable def RR:Kont U El:=fun st=>normK nmR st (retFin [2] [])
noncomputable def fr0 (a:List UInt8):St U El:=⟨[(0,(.str a))],[]⟩
noncomputable def sh0 (a:List UInt8):R :=
  some ((.bool (!(a == a))),[])
theorem P0 (a):exec X (cdp [] bd) .d (fr0 a) RR (fun _ _=>none) RR=sh0 a:=by kernel_rfl
noncomputable def f0 (a:List UInt8):R:=sh0 a
theorem T0 (a):exec X bd .d (fr0 a) RR (fun _ _=>none) RR=f0 a:=by
  refine (P0 a).trans ?_
  show _=sh0 a
  rfl
theorem run (a):runFn X bd .d nmR [2] [] [(.str a)]=f0 a:=T0 a
theorem f0_eq (a:List UInt8):f0 a=some (.bool false,[]):=by
  unfold f0 sh0
  cases h : !(a == a)
  · rfl
  · simp at h
theorem ok:CtxOk Try.prog X:=ctxOk tab spN dpN
theorem okM:MOk Try.prog X:=fun g sp h=>by cases h
theorem spec (a:List UInt8):CallSpec Try.prog E 81 [(.str a)] (.bool (false)) [] :=
  runFn_sound ok okM Try.call81 Try.func81 (by kernel_rfl) (by kernel_rfl) (by kernel_rfl) (by show 1≤6; decide) (by decide) (by rfl) ((run a).trans (f0_eq a))
noncomputable def sp:Sp U El:=fun args k=>match args with
  | [.str a]=>k (.bool (false)) []
  | _=>none
theorem spOk:SpOk Try.prog E 81 sp where
  det:=fun vs=>by
    unfold sp
    split
    · exact ⟨some (_,_),fun _=>rfl⟩
    · exact ⟨none,fun _=>rfl⟩
  ok:=fun vs k r h=>by
    unfold sp at h
    split at h
    · exact ⟨_,_,spec _,h⟩
    · cases h
end nanStr
namespace cmpInt
noncomputable def bd:Code:=(Try.f58.body).getD .skip
noncomputable def X:Ctx U El:=⟨E,tds,zeros,eqs,specOf [(80,nanInt.sp)],100000,20,dspecOf [],fun _=>none,fun _=>none⟩
noncomputable def nmR:Norm U:=⟨[],[4],[],[],[],[],[]⟩
noncomputable def RR:Kont U El:=fun st=>normK nmR st (retFin [4] [])
noncomputable def fr0 (a:Int) (b:Int):St U El:=⟨[(0,(.int .i64 a)),(1,(.int .i64 b))],[]⟩
noncomputable def sh0 (a:Int) (b:Int):R :=
  condB (false) (condB (false) (some ((.int .i64 (0:Int)),[])) (some ((.int .i64 (-1:Int)),[]))) (condB (false) (some ((.int .i64 (1:Int)),[])) (condB (ilt a b) (some ((.int .i64 (-1:Int)),[])) (condB (ilt b a) (some ((.int .i64 (1:Int)),[])) (some ((.int .i64 (0:Int)),[])))))
theorem P0 (a b):exec X (cdp [] bd) .d (fr0 a b) RR (fun _ _=>none) RR=sh0 a b:=by kernel_rfl
noncomputable def f0 (a:Int) (b:Int):R:=sh0 a b
theorem T0 (a b):exec X bd .d (fr0 a b) RR (fun _ _=>none) RR=f0 a b:=by
  refine (P0 a b).trans ?_
  show _=sh0 a b
  rfl
theorem run (a b):runFn X bd .d nmR [4] [] [(.int .i64 a),(.int .i64 b)]=f0 a b:=T0 a b
theorem f0_eq (a b:Int):f0 a b=some (.int .i64 (cmpZ a b),[]):=by
  unfold f0 sh0 cmpZ
  cases h1:ilt a b<;>cases h2:ilt b a<;>rfl
theorem ok:CtxOk Try.prog X:=ctxOk tab (spC nanInt.spOk spN) dpN
theorem okM:MOk Try.prog X:=fun g sp h=>by cases h
theorem spec (a:Int) (b:Int):CallSpec Try.prog E 58 [(.int .i64 a),(.int .i64 b)] (.int .i64 (cmpZ a b)) [] :=
  runFn_sound ok okM Try.call58 Try.func58 (by kernel_rfl) (by kernel_rfl) (by kernel_rfl) (by show 2≤20; decide) (by decide) (by rfl) ((run a b).trans (f0_eq a b))
noncomputable def sp:Sp U El:=fun args k=>match args with
  | [.int .i64 a,.int .i64 b]=>k (.int .i64 (cmpZ a b)) []
  | _=>none
theorem spOk:SpOk Try.prog E 58 sp where
  det:=fun vs=>by
    unfold sp
    split
    · exact ⟨some (_,_),fun _=>rfl⟩
    · exact ⟨none,fun _=>rfl⟩
  ok:=fun vs k r h=>by
    unfold sp at h
    split at h
    · exact ⟨_,_,spec _ _,h⟩
    · cases h
end cmpInt
namespace cmpStr
noncomputable def bd:Code:=(Try.f59.body).getD .skip
noncomputable def X:Ctx U El:=⟨E,tds,zeros,eqs,specOf [(81,nanStr.sp)],100000,20,dspecOf [],fun _=>none,fun _=>none⟩
noncomputable def nmR:Norm U:=⟨[],[4],[],[],[],[],[]⟩
noncomputable def RR:Kont U El:=fun st=>normK nmR st (retFin [4] [])
noncomputable def fr0 (a:List UInt8) (b:List UInt8):St U El:=⟨[(0,(.str a)),(1,(.str b))],[]⟩
noncomputable def sh0 (a:List UInt8) (b:List UInt8):R :=
  condB (false) (condB (false) (some ((.int .i64 (0:Int)),[])) (some ((.int .i64 (-1:Int)),[]))) (condB (false) (some ((.int .i64 (1:Int)),[])) (condB (slt a b) (some ((.int .i64 (-1:Int)),[])) (condB (!(slt a b||(a == b))) (some ((.int .i64 (1:Int)),[])) (some ((.int .i64 (0:Int)),[])))))
theorem P0 (a b):exec X (cdp [] bd) .d (fr0 a b) RR (fun _ _=>none) RR=sh0 a b:=by kernel_rfl
noncomputable def f0 (a:List UInt8) (b:List UInt8):R:=sh0 a b
theorem T0 (a b):exec X bd .d (fr0 a b) RR (fun _ _=>none) RR=f0 a b:=by
  refine (P0 a b).trans ?_
  show _=sh0 a b
  rfl
theorem run (a b):runFn X bd .d nmR [4] [] [(.str a),(.str b)]=f0 a b:=T0 a b
theorem f0_eq (a b:List UInt8):f0 a b=some (.int .i64 (cmpS a b),[]):=by
  unfold f0 sh0 cmpS
  cases h1:slt a b<;>cases h2:a == b<;>rfl
theorem ok:CtxOk Try.prog X:=ctxOk tab (spC nanStr.spOk spN) dpN
theorem okM:MOk Try.prog X:=fun g sp h=>by cases h
theorem spec (a:List UInt8) (b:List UInt8):CallSpec Try.prog E 59 [(.str a),(.str b)] (.int .i64 (cmpS a b)) [] :=
  runFn_sound ok okM Try.call59 Try.func59 (by kernel_rfl) (by kernel_rfl) (by kernel_rfl) (by show 2≤20; decide) (by decide) (by rfl) ((run a b).trans (f0_eq a b))
noncomputable def sp:Sp U El:=fun args k=>match args with
  | [.str a,.str b]=>k (.int .i64 (cmpS a b)) []
  | _=>none
theorem spOk:SpOk Try.prog E 59 sp where
  det:=fun vs=>by
    unfold sp
    split
    · exact ⟨some (_,_),fun _=>rfl⟩
    · exact ⟨none,fun _=>rfl⟩
  ok:=fun vs k r h=>by
    unfold sp at h
    split at h
    · exact ⟨_,_,spec _ _,h⟩
    · cases h
end cmpStr
namespace orInt
noncomputable def bd:Code:=(Try.f57.body).getD .skip
noncomputable def X:Ctx U El:=⟨E,tds,zeros,eqs,specOf [],100000,18,dspecOf [],fun _=>none,fun _=>none⟩
noncomputable def nmR:Norm U:=⟨[],[2],[],[],[],[],[]⟩
noncomputable def RR:Kont U El:=fun st=>normK nmR st (retFin [2] [])
noncomputable def nm1:Norm U:=⟨[],[3],[],[],[],[],[]⟩
noncomputable def nm2:Norm U:=⟨[],[3,6,7,8],[],[],[],[],[]⟩
abbrev Y1:=Int→R
abbrev Y2:=Int→(List Int)→Int→Int→R
noncomputable def fr0 (l:List Int):St U El:=⟨[(0,(.lst .int l))],[]⟩
noncomputable def fr1 (cA:Int):St U El:=⟨[(3,(.int .i64 cA))],[]⟩
noncomputable def fr2 (cA:Int) (x6:List Int) (x7:Int) (x8:Int):St U El:=⟨[(3,(.int .i64 cA)),(6,(.lst .int x6)),(7,(.int .i64 x7)),(8,(.int .i64 x8))],[]⟩
noncomputable def sh0 (l:List Int) (k2:Y2):R :=
  k2 (0:Int) l (Int.ofNat (List.length l)) (0:Int)
noncomputable def sh1 (cA:Int):R :=
  some ((.int .i64 cA),[])
noncomputable def sh2 (cA:Int) (x6:List Int) (x7:Int) (x8:Int) (k1:Y1) (k2:Y2):R :=
  condB (ilt x8 x7) (chk (inb x8 (List.length x6)) (condB ((List.getD x6 (Int.toNat x8) d_int) != cA) (some ((.int .i64 (List.getD x6 (Int.toNat x8) d_int)),[])) (k2 cA x6 x7 (IntKind.wrap .i64 (x8+(1:Int)))))) (k1 cA)
noncomputable def it2 (Kb1:Kont U El) (n:Nat):Kont U El:=iter nm2 (fun st' K'=>exec X (cdp [1,1,0,1,0,0] bd) .d st' K' (Eblk 0 (cutK nm1 Kb1) (fun _ _=>none)) RR) n
noncomputable def ct1:Kont U El:=fun st=>exec X (cdp [1,1,1] bd) .d st RR (fun _ _=>none) RR
theorem P0 (l):exec X (cdp [] bd) (.seq none .d (.seq none .d (.seq (some nm1) (.seq none .d (.block (.loop nm2 .d))) .d))) (fr0 l) RR (fun _ _=>none) RR=sh0 l (fun y0 y1 y2 y3=>(hid (it2 (hid ct1) 100000)) (fr2 y0 y1 y2 y3)):=by kernel_rfl
theorem P1 (cA):ct1 (fr1 cA)=sh1 cA:=by kernel_rfl
theorem P2 (cA x6 x7 x8) (Kb1 Kb2:Kont U El):exec X (cdp [1,1,0,1,0,0] bd) .d (fr2 cA x6 x7 x8) (cutK nm2 Kb2) (Eblk 0 (cutK nm1 Kb1) (fun _ _=>none)) RR=sh2 cA x6 x7 x8 (fun y0=>Kb1 (fr1 y0)) (fun y0 y1 y2 y3=>Kb2 (fr2 y0 y1 y2 y3)):=by kernel_rfl
noncomputable def f1 (cA:Int):R:=sh1 cA
noncomputable def f2:Nat→Y2
  | 0=>fun _ _ _ _=>none
  | n+1=>fun cA x6 x7 x8=>sh2 cA x6 x7 x8 f1 (f2 n)
noncomputable def f0 (l:List Int):R:=sh0 l (f2 100000)
theorem T1 (cA):(hid ct1) (fr1 cA)=f1 cA:=by
  refine (congrFun (hid_eq _) _).trans <| (P1 cA).trans ?_
  show _=sh1 cA
  rfl
theorem T2:∀ (n:Nat),∀ cA x6 x7 x8,it2 (hid ct1) n (fr2 cA x6 x7 x8)=f2 n cA x6 x7 x8:=by
  intro n
  induction n with
  | zero=>intros; rfl
  | succ n ih =>
    intro cA x6 x7 x8
    refine (P2 cA x6 x7 x8 (hid ct1) (it2 (hid ct1) n)).trans ?_
    show _=sh2 cA x6 x7 x8 f1 (f2 n)
    simp only [T1,ih]
theorem H2 (cA x6 x7 x8):hid (it2 (hid ct1) 100000) (fr2 cA x6 x7 x8)=f2 100000 cA x6 x7 x8:=(congrFun (hid_eq _) _).trans (T2 100000 cA x6 x7 x8)
theorem T0 (l):exec X bd (.seq none .d (.seq none .d (.seq (some nm1) (.seq none .d (.block (.loop nm2 .d))) .d))) (fr0 l) RR (fun _ _=>none) RR=f0 l:=by
  refine (P0 l).trans ?_
  show _=sh0 l (f2 100000)
  simp only [H2]
theorem run (l):runFn X bd (.seq none .d (.seq none .d (.seq (some nm1) (.seq none .d (.block (.loop nm2 .d))) .d))) nmR [2] [] [(.lst .int l)]=f0 l:=T0 l
theorem run_or:∀ l:List Int,frun (σ:=Unit) (fun _ x k=>condB (x != (0:Int)) (some (.int .i64 x,[]):R) (k ())) (fun _=>some (.int .i64 0,[])) () l=some (.int .i64 (orZ l),[]):=by
  intro l
  induction l with
  | nil=>rfl
  | cons x l ih =>
    simp only [frun,orZ]
    cases x != (0:Int)
    · exact ih
    · rfl
theorem f0_eq (l:List Int) (h:nle (List.length l) 1000=true):f0 l=some (.int .i64 (orZ l),[]):=by
  have hl:=nleI h
  refine (frun_eq l (by omega) (fun n (_:Unit) i=>f2 n 0 l (Int.ofNat l.length) i) _ (fun _=>some (.int .i64 0,[])) (fun n s i hi => ?_) (fun n s => ?_) 100000 0 () (by omega) (by omega)).trans (run_or l)
  · show sh2 0 l (Int.ofNat l.length) i f1 (f2 n) = _
    unfold sh2
    rw [iltT (by simp; omega),inbT hi,toNat_nat,getD_lt hi]
    rfl
  · show sh2 0 l (Int.ofNat l.length) (l.length : Int) f1 (f2 n) = _
    unfold sh2
    rw [iltF (by simp)]
    rfl
theorem ok:CtxOk Try.prog X:=ctxOk tab spN dpN
theorem okM:MOk Try.prog X:=fun g sp h=>by cases h
theorem spec (l:List Int) (h:(nle (List.length l) 1000)=true):CallSpec Try.prog E 57 [(.lst .int l)] (.int .i64 (orZ l)) [] :=
  runFn_sound ok okM Try.call57 Try.func57 (by kernel_rfl) (by kernel_rfl) (by kernel_rfl) (by show 1≤18; decide) (by decide) (by rfl) ((run l).trans (f0_eq l h))
noncomputable def sp:Sp U El:=fun args k=>match args with
  | [.lst .int l]=>chk (nle (List.length l) 1000) (k (.int .i64 (orZ l)) [])
  | _=>none
theorem spOk:SpOk Try.prog E 57 sp where
  det:=fun vs=>by
    unfold sp
    split
    · exact det_c _ _ _
    · exact ⟨none,fun _=>rfl⟩
  ok:=fun vs k r h=>by
    unfold sp at h
    split at h
    · obtain ⟨h1, h2⟩ := chk_some h
      exact ⟨_,_,spec _ h1,h2⟩
    · cases h
end orInt
namespace compare
noncomputable def bd:Code:=(Try.f41.body).getD .skip
noncomputable def X:Ctx U El:=⟨E,tds,zeros,eqs,specOf [(57,orInt.sp),(58,cmpInt.sp),(59,cmpStr.sp)],100000,22,dspecOf [],fun _=>none,fun _=>none⟩
noncomputable def nmR:Norm U:=⟨[],[4],[],[],[],[],[]⟩
noncomputable def RR:Kont U El:=fun st=>normK nmR st (retFin [4] [])
noncomputable def fr0 (a:Msg) (b:Msg):St U El:=⟨[(0,(.agg [(.str a.nd),(.int .i64 a.no),(.int .i64 a.at_),(.int .i64 a.ar),(.int .i64 a.lv)])),(1,(.agg [(.str b.nd),(.int .i64 b.no),(.int .i64 b.at_),(.int .i64 b.ar),(.int .i64 b.lv)]))],[]⟩
noncomputable def sh0 (a:Msg) (b:Msg):R :=
  chk (nle (List.length ([(cmpZ a.at_ b.at_),(cmpS a.nd b.nd),(cmpZ a.no b.no)]:List Int)) 1000) (some ((.int .i64 (orZ ([(cmpZ a.at_ b.at_),(cmpS a.nd b.nd),(cmpZ a.no b.no)]:List Int))),[]))
theorem P0 (a b):exec X (cdp [] bd) .d (fr0 a b) RR (fun _ _=>none) RR=sh0 a b:=by kernel_rfl
noncomputable def f0 (a:Msg) (b:Msg):R:=sh0 a b
theorem T0 (a b):exec X bd .d (fr0 a b) RR (fun _ _=>none) RR=f0 a b:=by
  refine (P0 a b).trans ?_
  show _=sh0 a b
  rfl
theorem run (a b):runFn X bd .d nmR [4] [] [(.agg [(.str a.nd),(.int .i64 a.no),(.int .i64 a.at_),(.int .i64 a.ar),(.int .i64 a.lv)]),(.agg [(.str b.nd),(.int .i64 b.no),(.int .i64 b.at_),(.int .i64 b.ar),(.int .i64 b.lv)])]=f0 a b:=T0 a b
theorem f0_eq (a b:Msg):f0 a b=some (.int .i64 (compareZ a b),[]):=rfl
theorem ok:CtxOk Try.prog X:=ctxOk tab (spC orInt.spOk (spC cmpInt.spOk (spC cmpStr.spOk spN))) dpN
theorem okM:MOk Try.prog X:=fun g sp h=>by cases h
theorem spec (a:Msg) (b:Msg):CallSpec Try.prog E 41 [(.agg [(.str a.nd),(.int .i64 a.no),(.int .i64 a.at_),(.int .i64 a.ar),(.int .i64 a.lv)]),(.agg [(.str b.nd),(.int .i64 b.no),(.int .i64 b.at_),(.int .i64 b.ar),(.int .i64 b.lv)])] (.int .i64 (compareZ a b)) [] :=
  runFn_sound ok okM Try.call41 Try.func41 (by kernel_rfl) (by kernel_rfl) (by kernel_rfl) (by show 2≤22; decide) (by decide) (by rfl) ((run a b).trans (f0_eq a b))
noncomputable def sp:Sp U El:=fun args k=>match args with
  | [.agg [.str a_nd,.int .i64 a_no,.int .i64 a_at_,.int .i64 a_ar,.int .i64 a_lv],.agg [.str b_nd,.int .i64 b_no,.int .i64 b_at_,.int .i64 b_ar,.int .i64 b_lv]]=>k (.int .i64 (compareZ (⟨a_nd,a_no,a_at_,a_ar,a_lv⟩:Msg) (⟨b_nd,b_no,b_at_,b_ar,b_lv⟩:Msg))) []
  | _=>none
theorem spOk:SpOk Try.prog E 41 sp where
  det:=fun vs=>by
    unfold sp
    split
    · exact ⟨some (_,_),fun _=>rfl⟩
    · exact ⟨none,fun _=>rfl⟩
  ok:=fun vs k r h=>by
    unfold sp at h
    split at h
    · exact ⟨_,_,spec ⟨_,_,_,_,_⟩ ⟨_,_,_,_,_⟩,h⟩
    · cases h
end compare
theorem cmpZ_cases (a b:Int):(a < b∧cmpZ a b = -1)∨(a=b∧cmpZ a b=0)∨(b < a∧cmpZ a b=1):=by
  unfold cmpZ
  by_cases h:a < b
  · left; rw [iltT h]; exact ⟨h,rfl⟩
  · by_cases h2 : b < a
    · right; right; rw [iltF h,iltT h2]; exact ⟨h2,rfl⟩
    · right; left; rw [iltF h,iltF h2]; exact ⟨by omega,rfl⟩
theorem cmpS_cases (a b:List UInt8):(slt a b=true∧(a == b)=false∧cmpS a b = -1)∨((a == b)=true∧cmpS a b=0)∨(slt a b=false∧(a == b)=false∧cmpS a b=1):=by
  unfold cmpS
  by_cases e:a=b
  · subst e; right; left; simp [slt_irrefl]
  · have e2 : (a == b) = false := by simpa using e
    cases h:slt a b
    · right; right; simp [e2]
    · left; simp [e2]
theorem before_iff (d e : Msg) : beforeB d e = true ↔ d.at_ < e.at_ ∨ (d.at_ = e.at_ ∧ (slt d.nd e.nd = true ∨ (d.nd = e.nd ∧ d.no < e.no))) := by
  unfold beforeB
  by_cases h1:d.at_=e.at_
  · rw [show (d.at_ != e.at_) = false by simp [h1]]
    simp only [cond_false]
    by_cases h2:d.nd=e.nd
    · rw [show (!(d.nd == e.nd)) = false by simp [h2]]
      simp only [cond_false,ilt,decide_eq_true_eq]
      have:=slt_irrefl e.nd
      rw [h2,this]
      constructor
      · intro h; exact .inr ⟨h1,.inr ⟨rfl,h⟩⟩
      · rintro (h | ⟨_, h | ⟨_, h⟩⟩)
        · omega
        · cases h
        · exact h
    · rw [show (!(d.nd == e.nd)) = true by simp [h2]]
      simp only [cond_true]
      constructor
      · intro h; exact .inr ⟨h1,.inl h⟩
      · rintro (h | ⟨_, h | ⟨h, _⟩⟩)
        · omega
        · exact h
        · exact absurd h h2
  · rw [show (d.at_ != e.at_) = true by simp [h1]]
    simp only [cond_true,ilt,decide_eq_true_eq]
    constructor
    · intro h; exact .inl h
    · rintro (h | ⟨h, _⟩)
      · exact h
      · exact absurd h h1
theorem before_irrefl (d:Msg):beforeB d d=false:=by
  cases h:beforeB d d
  · rfl
  · rcases (before_iff d d).1 h with h | ⟨_, h | ⟨_, h⟩⟩
    · omega
    · rw [slt_irrefl] at h; cases h
    · omega
theorem before_trans {x y z:Msg} (h1:beforeB x y=true) (h2:beforeB y z=true):beforeB x z=true:=by
  rw [before_iff] at *
  rcases h1 with h1 | ⟨e1,h1⟩<;>rcases h2 with h2 | ⟨e2,h2⟩
  · exact .inl (by omega)
  · exact .inl (by omega)
  · exact .inl (by omega)
  · refine .inr ⟨by omega, ?_⟩
    rcases h1 with h1 | ⟨f1,h1⟩<;>rcases h2 with h2 | ⟨f2,h2⟩
    · exact .inl (slt_trans h1 h2)
    · exact .inl (f2 ▸ h1)
    · exact .inl (f1 ▸ h2)
    · exact .inr ⟨f1.trans f2,by omega⟩
theorem before_tie {x y:Msg} (h1:beforeB x y=false) (h2:beforeB y x=false):x.at_=y.at_∧x.nd=y.nd∧x.no=y.no:=by
  have n1:¬ beforeB x y=true:=by rw [h1]; simp
  have n2:¬ beforeB y x=true:=by rw [h2]; simp
  rw [before_iff] at n1 n2
  have ea:x.at_=y.at_:=by omega
  have ec:x.nd=y.nd:=by
    refine slt_total ?_ ?_
    · cases h : slt x.nd y.nd
      · rfl
      · exact absurd (.inr ⟨ea,.inl h⟩) n1
    · cases h : slt y.nd x.nd
      · rfl
      · exact absurd (.inr ⟨ea.symm,.inl h⟩) n2
  have n1':¬ x.no < y.no:=fun h=>n1 (.inr ⟨ea,.inr ⟨ec,h⟩⟩)
  have n2':¬ y.no < x.no:=fun h=>n2 (.inr ⟨ea.symm,.inr ⟨ec.symm,h⟩⟩)
  exact ⟨ea,ec,by omega⟩
theorem compare_neg (x y : Msg) : (compareZ x y < 0) ↔ beforeB x y = true := by
  rw [before_iff]
  unfold compareZ
  rcases cmpZ_cases x.at_ y.at_ with ⟨h,e⟩ | ⟨h,e⟩ | ⟨h,e⟩
  · rw [e]; simp [orZ,h]
  · rw [e]
    rcases cmpS_cases x.nd y.nd with ⟨h2,h3,e2⟩ | ⟨h2,e2⟩ | ⟨h2,h3,e2⟩
    · rw [e2]; simp [orZ,h,h2]
    · rw [e2]
      have h2:x.nd=y.nd:=by simpa using h2
      rcases cmpZ_cases x.no y.no with ⟨h4,e4⟩ | ⟨h4,e4⟩ | ⟨h4,e4⟩
      · rw [e4]; simp [orZ,h,h2,h4,slt_irrefl]
      · rw [e4]; simp [orZ,h,h2,h4,slt_irrefl]
      · rw [e4]
        have:¬ x.no < y.no:=by omega
        simp [orZ,h,h2,this,slt_irrefl]
    · rw [e2]
      have h3:¬ x.nd=y.nd:=by simpa using h3
      simp [orZ,h,h2,h3]
  · rw [e]
    have h1:¬ x.at_ < y.at_:=by omega
    have h2:¬ x.at_=y.at_:=by omega
    simp [orZ,h1,h2]
namespace equalM
noncomputable def bd:Code:=(Try.f16.body).getD .skip
noncomputable def X:Ctx U El:=⟨E,tds,zeros,eqs,specOf [],100000,26,dspecOf [],fun _=>none,fun _=>none⟩
noncomputable def nmR:Norm U:=⟨[],[4],[],[],[],[],[]⟩
noncomputable def RR:Kont U El:=fun st=>normK nmR st (retFin [4] [])
noncomputable def nm1:Norm U:=⟨[],[],[],[],[],[],[]⟩
noncomputable def nm2:Norm U:=⟨[],[0,1,12,13],[],[],[],[],[]⟩
abbrev Y1:=R
abbrev Y2:=(List Msg)→(List Msg)→Int→Int→R
noncomputable def fr0 (a:List Msg) (b:List Msg):St U El:=⟨[(0,(.lst .msg a)),(1,(.lst .msg b))],[]⟩
noncomputable def fr1:St U El:=⟨[],[]⟩
noncomputable def fr2 (eA:List Msg) (fA:List Msg) (gA:Int) (dA:Int):St U El:=⟨[(0,(.lst .msg eA)),(1,(.lst .msg fA)),(12,(.int .i64 gA)),(13,(.int .i64 dA))],[]⟩
noncomputable def sh0 (a:List Msg) (b:List Msg) (k2:Y2):R :=
  condB ((Int.ofNat (List.length a)) != (Int.ofNat (List.length b))) (some ((.bool false),[])) (k2 a b (Int.ofNat (List.length a)) (0:Int))
noncomputable def sh1:R :=
  some ((.bool true),[])
noncomputable def sh2 (eA:List Msg) (fA:List Msg) (gA:Int) (dA:Int) (k1:Y1) (k2:Y2):R :=
  condB (ilt dA gA) (chk (inb dA (List.length eA)) (chk (inb dA (List.length fA)) (condB (!(((List.getD eA (Int.toNat dA) d_msg).nd == (List.getD fA (Int.toNat dA) d_msg).nd)&&(((List.getD eA (Int.toNat dA) d_msg).no == (List.getD fA (Int.toNat dA) d_msg).no)&&(((List.getD eA (Int.toNat dA) d_msg).at_ == (List.getD fA (Int.toNat dA) d_msg).at_)&&(((List.getD eA (Int.toNat dA) d_msg).ar == (List.getD fA (Int.toNat dA) d_msg).ar)&&(((List.getD eA (Int.toNat dA) d_msg).lv == (List.getD fA (Int.toNat dA) d_msg).lv)&&true)))))) (some ((.bool false),[])) (k2 eA fA gA (IntKind.wrap .i64 (dA+(1:Int))))))) (k1)
noncomputable def it2 (Kb1:Kont U El) (n:Nat):Kont U El:=iter nm2 (fun st' K'=>exec X (cdp [1,1,0,1,0,0] bd) .d st' K' (Eblk 0 (cutK nm1 Kb1) (fun _ _=>none)) RR) n
noncomputable def ct1:Kont U El:=fun st=>exec X (cdp [1,1,1] bd) .d st RR (fun _ _=>none) RR
theorem P0 (a b):exec X (cdp [] bd) (.seq none .d (.seq none .d (.seq (some nm1) (.seq none .d (.block (.loop nm2 .d))) .d))) (fr0 a b) RR (fun _ _=>none) RR=sh0 a b (fun y0 y1 y2 y3=>(hid (it2 (hid ct1) 100000)) (fr2 y0 y1 y2 y3)):=by kernel_rfl
theorem P1:ct1 (fr1)=sh1:=by kernel_rfl
theorem P2 (eA fA gA dA) (Kb1 Kb2:Kont U El):exec X (cdp [1,1,0,1,0,0] bd) .d (fr2 eA fA gA dA) (cutK nm2 Kb2) (Eblk 0 (cutK nm1 Kb1) (fun _ _=>none)) RR=sh2 eA fA gA dA (Kb1 (fr1)) (fun y0 y1 y2 y3=>Kb2 (fr2 y0 y1 y2 y3)):=by kernel_rfl
noncomputable def f1:R:=sh1
noncomputable def f2:Nat→Y2
  | 0=>fun _ _ _ _=>none
  | n+1=>fun eA fA gA dA=>sh2 eA fA gA dA f1 (f2 n)
noncomputable def f0 (a:List Msg) (b:List Msg):R:=sh0 a b (f2 100000)
theorem T1:(hid ct1) (fr1)=f1:=by
  refine (congrFun (hid_eq _) _).trans <| (P1).trans ?_
  show _=sh1
  rfl
theorem T2:∀ (n:Nat),∀ eA fA gA dA,it2 (hid ct1) n (fr2 eA fA gA dA)=f2 n eA fA gA dA:=by
  intro n
  induction n with
  | zero=>intros; rfl
  | succ n ih =>
    intro eA fA gA dA
    refine (P2 eA fA gA dA (hid ct1) (it2 (hid ct1) n)).trans ?_
    show _=sh2 eA fA gA dA f1 (f2 n)
    simp only [T1,ih]
theorem H2 (eA fA gA dA):hid (it2 (hid ct1) 100000) (fr2 eA fA gA dA)=f2 100000 eA fA gA dA:=(congrFun (hid_eq _) _).trans (T2 100000 eA fA gA dA)
theorem T0 (a b):exec X bd (.seq none .d (.seq none .d (.seq (some nm1) (.seq none .d (.block (.loop nm2 .d))) .d))) (fr0 a b) RR (fun _ _=>none) RR=f0 a b:=by
  refine (P0 a b).trans ?_
  show _=sh0 a b (f2 100000)
  simp only [H2]
theorem run (a b):runFn X bd (.seq none .d (.seq none .d (.seq (some nm1) (.seq none .d (.block (.loop nm2 .d))) .d))) nmR [4] [] [(.lst .msg a),(.lst .msg b)]=f0 a b:=T0 a b
theorem loop (a b:List Msg) (hl:a.length≤90000) (he:a.length=b.length):∀ (n i:Nat),a.length < n+i→i≤a.length→f2 n a b (Int.ofNat a.length) (i:Int)=outB (eqLM (a.drop i) (b.drop i)):=by
  intro n
  induction n with
  | zero=>intro i h1 h2; omega
  | succ n ih =>
    intro i h1 h2
    show sh2 a b (Int.ofNat a.length) i f1 (f2 n)=_
    unfold sh2
    by_cases hi:i < a.length
    · have hi' : i < b.length := by omega
      rw [iltT (by simp; omega),inbT hi,inbT hi',toNat_nat,getD_lt hi,getD_lt hi',drop_lt hi,drop_lt hi',wrapS i (by omega)]
      simp only [eqLM]
      show condB (!(eqM a[i] b[i])) _ _=_
      cases eqM a[i] b[i]
      · rfl
      · exact ih (i+1) (by omega) hi
    · have : i = a.length := by omega
      subst this
      rw [iltF (by simp),List.drop_length,he,List.drop_length]
      rfl
theorem f0_eq (a b:List Msg) (h:nle (List.length a) 90000=true):f0 a b=outB (eqL a b):=by
  have hl:a.length≤90000:=nleI h
  unfold f0 sh0 eqL
  cases hb:(Int.ofNat a.length) != (Int.ofNat b.length)
  · have he : a.length = b.length := by
      have:(Int.ofNat a.length)=(Int.ofNat b.length):=by simpa using hb
      exact Int.ofNat.inj this
    exact loop a b hl he 100000 0 (by omega) (by omega)
  · rfl
theorem ok:CtxOk Try.prog X:=ctxOk tab spN dpN
theorem okM:MOk Try.prog X:=fun g sp h=>by cases h
theorem spec (a:List Msg) (b:List Msg) (h:(nle (List.length a) 90000)=true):CallSpec Try.prog E 16 [(.lst .msg a),(.lst .msg b)] (.bool (eqL a b)) [] :=
  runFn_sound ok okM Try.call16 Try.func16 (by kernel_rfl) (by kernel_rfl) (by kernel_rfl) (by show 2≤26; decide) (by decide) (by rfl) ((run a b).trans (f0_eq a b h))
noncomputable def sp:Sp U El:=fun args k=>match args with
  | [.lst .msg a,.lst .msg b]=>chk (nle (List.length a) 90000) (k (.bool (eqL a b)) [])
  | _=>none
theorem spOk:SpOk Try.prog E 16 sp where
  det:=fun vs=>by
    unfold sp
    split
    · exact det_c _ _ _
    · exact ⟨none,fun _=>rfl⟩
  ok:=fun vs k r h=>by
    unfold sp at h
    split at h
    · obtain ⟨h1, h2⟩ := chk_some h
      exact ⟨_,_,spec _ _ h1,h2⟩
    · cases h
end equalM
namespace rhas
noncomputable def bd:Code:=(Try.f24.body).getD .skip
noncomputable def X:Ctx U El:=⟨E,tds,zeros,eqs,specOf [],100000,30,dspecOf [],fun _=>none,fun _=>none⟩
noncomputable def nmR:Norm U:=⟨[],[6],[],[],[],[],[]⟩
noncomputable def RR:Kont U El:=fun st=>normK nmR st (retFin [6] [])
noncomputable def nm1:Norm U:=⟨[],[],[],[],[],[],[]⟩
noncomputable def nm2:Norm U:=⟨[],[0,1,2,7],[],[],[],[],[]⟩
noncomputable def nm3:Norm U:=⟨[],[0,1,2,7],[],[],[],[],[]⟩
abbrev Y1:=R
abbrev Y2:=(List Msg)→(List UInt8)→Int→Int→R
abbrev Y3:=(List Msg)→(List UInt8)→Int→Int→R
noncomputable def fr0 (l:List Msg) (s:List UInt8) (n:Int):St U El:=⟨[(0,(.lst .msg l)),(1,(.str s)),(2,(.int .i64 n))],[]⟩
noncomputable def fr1:St U El:=⟨[],[]⟩
noncomputable def fr2 (l0:List Msg) (bA:List UInt8) (aA:Int) (i7:Int):St U El:=⟨[(0,(.lst .msg l0)),(1,(.str bA)),(2,(.int .i64 aA)),(7,(.int .i64 i7))],[]⟩
noncomputable def fr3 (l0:List Msg) (bA:List UInt8) (aA:Int) (i7:Int):St U El:=⟨[(0,(.lst .msg l0)),(1,(.str bA)),(2,(.int .i64 aA)),(7,(.int .i64 i7))],[]⟩
noncomputable def sh0 (l:List Msg) (s:List UInt8) (n:Int) (k2:Y2):R :=
  k2 l s n (0:Int)
noncomputable def sh1:R :=
  some ((.bool false),[])
noncomputable def sh2 (l0:List Msg) (bA:List UInt8) (aA:Int) (i7:Int) (k1:Y1) (k3:Y3):R :=
  condB (ilt i7 (Int.ofNat (List.length l0))) (chk (inb i7 (List.length l0)) (condB (((List.getD l0 (Int.toNat i7) d_msg).nd) == bA) (chk (inb i7 (List.length l0)) (condB ((List.getD l0 (Int.toNat i7) d_msg).no == aA) (some ((.bool true),[])) (k3 l0 bA aA i7))) (k3 l0 bA aA i7))) (k1)
noncomputable def sh3 (l0:List Msg) (bA:List UInt8) (aA:Int) (i7:Int) (k2:Y2):R :=
  k2 l0 bA aA (IntKind.wrap .i64 (i7+(1:Int)))
noncomputable def it2 (Kb1:Kont U El) (n:Nat):Kont U El:=iter nm2 (fun st' K'=>exec X (cdp [1,0,1,0,0] bd) (.seq none .d (.seq (some nm3) .d .d)) st' K' (Eblk 0 (cutK nm1 Kb1) (fun _ _=>none)) RR) n
noncomputable def ct1:Kont U El:=fun st=>exec X (cdp [1,1] bd) .d st RR (fun _ _=>none) RR
noncomputable def ct3 (Kb1 Kb2:Kont U El):Kont U El:=fun st=>exec X (cdp [1,0,1,0,0,1,1] bd) .d st (cutK nm2 Kb2) (Eblk 0 (cutK nm1 Kb1) (fun _ _=>none)) RR
theorem P0 (l s n):exec X (cdp [] bd) (.seq none .d (.seq (some nm1) (.seq none .d (.block (.loop nm2 (.seq none .d (.seq (some nm3) .d .d))))) .d)) (fr0 l s n) RR (fun _ _=>none) RR=sh0 l s n (fun y0 y1 y2 y3=>(hid (it2 (hid ct1) 100000)) (fr2 y0 y1 y2 y3)):=by kernel_rfl
theorem P1:ct1 (fr1)=sh1:=by kernel_rfl
theorem P2 (l0 bA aA i7) (Kb1 Kb2:Kont U El):exec X (cdp [1,0,1,0,0] bd) (.seq none .d (.seq (some nm3) .d .d)) (fr2 l0 bA aA i7) (cutK nm2 Kb2) (Eblk 0 (cutK nm1 Kb1) (fun _ _=>none)) RR=sh2 l0 bA aA i7 (Kb1 (fr1)) (fun y0 y1 y2 y3=>(hid (ct3 Kb1 Kb2)) (fr3 y0 y1 y2 y3)):=by kernel_rfl
theorem P3 (l0 bA aA i7) (Kb1 Kb2:Kont U El):ct3 Kb1 Kb2 (fr3 l0 bA aA i7)=sh3 l0 bA aA i7 (fun y0 y1 y2 y3=>Kb2 (fr2 y0 y1 y2 y3)):=by kernel_rfl
noncomputable def f1:R:=sh1
noncomputable def f3 (k2:Y2) (l0:List Msg) (bA:List UInt8) (aA:Int) (i7:Int):R:=sh3 l0 bA aA i7 k2
noncomputable def f2:Nat→Y2
  | 0=>fun _ _ _ _=>none
  | n+1=>fun l0 bA aA i7=>sh2 l0 bA aA i7 f1 (f3 (f2 n))
noncomputable def f0 (l:List Msg) (s:List UInt8) (n:Int):R:=sh0 l s n (f2 100000)
theorem T1:(hid ct1) (fr1)=f1:=by
  refine (congrFun (hid_eq _) _).trans <| (P1).trans ?_
  show _=sh1
  rfl
theorem T3 (KL2:Kont U El) (k2:Y2) (h2:∀ l0 bA aA i7,KL2 (fr2 l0 bA aA i7)=k2 l0 bA aA i7) (l0 bA aA i7):(hid (ct3 (hid ct1) KL2)) (fr3 l0 bA aA i7)=f3 k2 l0 bA aA i7:=by
  refine (congrFun (hid_eq _) _).trans <| (P3 l0 bA aA i7 (hid ct1) KL2).trans ?_
  show _=sh3 l0 bA aA i7 k2
  simp only [h2]
theorem T2:∀ (n:Nat),∀ l0 bA aA i7,it2 (hid ct1) n (fr2 l0 bA aA i7)=f2 n l0 bA aA i7:=by
  intro n
  induction n with
  | zero=>intros; rfl
  | succ n ih =>
    intro l0 bA aA i7
    refine (P2 l0 bA aA i7 (hid ct1) (it2 (hid ct1) n)).trans ?_
    show _=sh2 l0 bA aA i7 f1 (f3 (f2 n))
    simp only [T1,T3 (it2 (hid ct1) n) (f2 n) ih]
theorem H2 (l0 bA aA i7):hid (it2 (hid ct1) 100000) (fr2 l0 bA aA i7)=f2 100000 l0 bA aA i7:=(congrFun (hid_eq _) _).trans (T2 100000 l0 bA aA i7)
theorem T0 (l s n):exec X bd (.seq none .d (.seq (some nm1) (.seq none .d (.block (.loop nm2 (.seq none .d (.seq (some nm3) .d .d))))) .d)) (fr0 l s n) RR (fun _ _=>none) RR=f0 l s n:=by
  refine (P0 l s n).trans ?_
  show _=sh0 l s n (f2 100000)
  simp only [H2]
theorem run (l s n):runFn X bd (.seq none .d (.seq (some nm1) (.seq none .d (.block (.loop nm2 (.seq none .d (.seq (some nm3) .d .d))))) .d)) nmR [6] [] [(.lst .msg l),(.str s),(.int .i64 n)]=f0 l s n:=T0 l s n
theorem f0_eq (l:List Msg) (s:List UInt8) (n:Int) (h:nle (List.length l) 90000=true):f0 l s n=outB (hasB l s n):=by
  have hl:=nleI h
  refine (frun_eq l (by omega) (fun m (_:Unit) i=>f2 m l s n i) (fun _ x k=>condB ((x.nd == s)&&(x.no == n)) (outB true) (k ())) (fun _=>outB false) (fun m t i hi => ?_) (fun m t => ?_) 100000 0 () (by omega) (by omega)).trans (frun_any _ outB l)
  · show sh2 l s n i f1 (f3 (f2 m)) = _
    unfold sh2
    rw [iltT (by simp; omega),inbT hi,toNat_nat,getD_lt hi]
    cases l[i].nd == s
    · rfl
    · cases l[i].no == n<;>rfl
  · show sh2 l s n (l.length : Int) f1 (f3 (f2 m)) = _
    unfold sh2
    rw [iltF (by simp)]
    rfl
theorem ok:CtxOk Try.prog X:=ctxOk tab spN dpN
theorem okM:MOk Try.prog X:=fun g sp h=>by cases h
theorem spec (l:List Msg) (s:List UInt8) (n:Int) (h:(nle (List.length l) 90000)=true):CallSpec Try.prog E 24 [(.lst .msg l),(.str s),(.int .i64 n)] (.bool (hasB l s n)) [] :=
  runFn_sound ok okM Try.call24 Try.func24 (by kernel_rfl) (by kernel_rfl) (by kernel_rfl) (by show 3≤30; decide) (by decide) (by rfl) ((run l s n).trans (f0_eq l s n h))
noncomputable def sp:Sp U El:=fun args k=>match args with
  | [.lst .msg l,.str s,.int .i64 n]=>chk (nle (List.length l) 90000) (k (.bool (hasB l s n)) [])
  | _=>none
theorem spOk:SpOk Try.prog E 24 sp where
  det:=fun vs=>by
    unfold sp
    split
    · exact det_c _ _ _
    · exact ⟨none,fun _=>rfl⟩
  ok:=fun vs k r h=>by
    unfold sp at h
    split at h
    · obtain ⟨h1, h2⟩ := chk_some h
      exact ⟨_,_,spec _ _ _ h1,h2⟩
    · cases h
end rhas
namespace cloneM
noncomputable def bd:Code:=(Try.f22.body).getD .skip
noncomputable def X:Ctx U El:=⟨E,tds,zeros,eqs,specOf [],100000,8,dspecOf [],fun _=>none,fun _=>none⟩
noncomputable def nmR:Norm U:=⟨[(2,.msg)],[2],[2],[],[],[],[]⟩
noncomputable def RR:Kont U El:=fun st=>normK nmR st (retFin [2] [2])
noncomputable def fr0 (l:List Msg):St U El:=⟨[(0,(.lst .msg l))],[]⟩
noncomputable def sh0 (l:List Msg):R :=
  condB (nlt 0 (List.length l)) (chk (nle ((List.length ([]:List Msg)+List.length l) * 48) 140737488355328&&nle (List.length ([]:List Msg)+List.length l) 9223372036854775807) (some ((.ful 0),[(0,.rows .msg (([]:List Msg)++l))]))) (amb (some ((.ful 0),[(0,.rows .msg ([]:List Msg))])) (chk (nle ((List.length ([]:List Msg)+List.length l) * 48) 140737488355328&&nle (List.length ([]:List Msg)+List.length l) 9223372036854775807) (some ((.ful 0),[(0,.rows .msg (([]:List Msg)++l))]))))
theorem P0 (l):exec X (cdp [] bd) .d (fr0 l) RR (fun _ _=>none) RR=sh0 l:=by kernel_rfl
noncomputable def f0 (l:List Msg):R:=sh0 l
theorem T0 (l):exec X bd .d (fr0 l) RR (fun _ _=>none) RR=f0 l:=by
  refine (P0 l).trans ?_
  show _=sh0 l
  rfl
theorem run (l):runFn X bd .d nmR [2] [2] [(.lst .msg l)]=f0 l:=T0 l
theorem f0_eq (l:List Msg) (h:nle (List.length l) 100000=true):f0 l=some ((.ful 0),[(0,.rows .msg l)]):=by
  have hl:=nleI h
  show sh0 l=_
  unfold sh0
  rw [show (nle ((List.length ([]:List Msg)+List.length l) * 48) 140737488355328&&nle (List.length ([]:List Msg)+List.length l) 9223372036854775807)=true from Bool.and_eq_true_iff.2 ⟨nleT (by simp; omega),nleT (by simp; omega)⟩]
  cases l with
  | nil=>exact amb_same _
  | cons x l=>rfl
theorem ok:CtxOk Try.prog X:=ctxOk tab spN dpN
theorem okM:MOk Try.prog X:=fun g sp h=>by cases h
theorem spec (l:List Msg) (h:(nle (List.length l) 100000)=true):CallSpec Try.prog E 22 [(.lst .msg l)] (.ful 0) [(0,.rows .msg (l))] :=
  runFn_sound ok okM Try.call22 Try.func22 (by kernel_rfl) (by kernel_rfl) (by kernel_rfl) (by show 1≤8; decide) (by decide) (by rfl) ((run l).trans (f0_eq l h))
noncomputable def sp:Sp U El:=fun args k=>match args with
  | [.lst .msg l]=>chk (nle (List.length l) 100000) (k (.ful 0) [(0,.rows .msg (l))])
  | _=>none
theorem spOk:SpOk Try.prog E 22 sp where
  det:=fun vs=>by
    unfold sp
    split
    · exact det_c _ _ _
    · exact ⟨none,fun _=>rfl⟩
  ok:=fun vs k r h=>by
    unfold sp at h
    split at h
    · obtain ⟨h1, h2⟩ := chk_some h
      exact ⟨_,_,spec _ h1,h2⟩
    · cases h
end cloneM
end Go.Proofs.Ytkeplmpcijigaaa
