import Derived.Test.YthdimnlkcgchoaaGreatVU
namespace Go.Proofs.YthdimnlkcgchoaaGreat
set_option linter.all false
set_option maxRecDepth 100000
theorem ready_of {l:List Rule} {n:Net} (h:readyB l n=true):largeB l n=false∧okN n=true∧givenZ l n=0:=by
 simp only [readyB,Bool.and_eq_true,Bool.not_eq_true'] at h
 exact ⟨h.1,large_ok h.1,by simpa using h.2⟩
theorem large_small' {l:List Rule} {n:Net} (h:largeB l n=false):smallR l=true:=by
 simp only [largeB,Bool.or_eq_false_iff] at h
 obtain ⟨_,_,_,h4,_,_,h5⟩:=h
 have a:=iltN h4
 simp only [smallR,Bool.and_eq_true]
 refine ⟨nleT (by simp at a; omega),List.all_eq_true.2 fun x hx=>?_⟩
 have:=List.any_eq_false.1 h5 x hx
 simp only [longB,Bool.or_eq_true,not_or] at this
 have:=this.1
 exact nleT (by simp [ilt] at this; omega)
end Go.Proofs.YthdimnlkcgchoaaGreat
namespace Go.Proofs.YthdimnlkcgchoaaGreat
set_option linter.all false
set_option maxRecDepth 100000
noncomputable def runS (n:Net) (am:List ((List UInt8)×Int)):List Rule→List Int→List (Int×Bool)→Option (List Int)
 | [],out,_=>some out
 | r :: l, out, st => bif !(List.any r.rw (failsM am)) then (bif mgetD kq_int st (linkZ n r.rl) d_bool && (List.getD out (Int.toNat (linkZ n r.rl)) d_int != r.rs) then none
   else runS n am l (List.set out (Int.toNat (linkZ n r.rl)) r.rs) (mput kq_int st (linkZ n r.rl) true)) else runS n am l out st
namespace idxP
noncomputable def bd:Code:=(Tryz.f79.body).getD .skip
noncomputable def X:Ctx U El:=⟨E,tds,zeros,eqs,specOf [],100000,19,dspecOf [],fun _=>none,fun _=>none⟩
noncomputable def nmR:Norm U:=⟨[],[4],[],[],[],[],[]⟩
noncomputable def RR:Kont U El:=fun st=>normK nmR st (retFin [4] [])
noncomputable def nm1:Norm U:=⟨[],[],[],[],[],[],[]⟩
noncomputable def nm2:Norm U:=⟨[],[0,3,7,8],[3],[],[],[],[]⟩
abbrev Y1:=R
abbrev Y2:=(List Pair)→Int→Int→Pair→R
noncomputable def fr0 (l:List Pair) (x:Pair):St U El:=⟨[(0,(.lst .pair l)),(1,(.agg [(.int .i64 x.p0),(.int .i64 x.p1)]))],[]⟩
noncomputable def fr1:St U El:=⟨[],[]⟩
noncomputable def fr2 (s0:List Pair) (x7:Int) (x8:Int) (b3:Pair):St U El:=⟨[(0,(.lst .pair s0)),(3,(.ptr 3 0)),(7,(.int .i64 x7)),(8,(.int .i64 x8))],[(3,(.box 0 [(.int .i64 b3.p0),(.int .i64 b3.p1)]))]⟩
noncomputable def sh0 (l:List Pair) (x:Pair) (k2:Y2):R :=
 k2 l (Int.ofNat (List.length l)) (0:Int) x
noncomputable def sh1:R :=
 some ((.int .i64 (-1:Int)),[])
noncomputable def sh2 (s0:List Pair) (x7:Int) (x8:Int) (b3:Pair) (k1:Y1) (k2:Y2):R :=
 condB (ilt x8 x7) (chk (inb x8 (List.length s0)) (condB ((b3.p0 == (List.getD s0 (Int.toNat x8) d_pair).p0)&&((b3.p1 == (List.getD s0 (Int.toNat x8) d_pair).p1)&&true)) (some ((.int .i64 x8),[])) (k2 s0 x7 (IntKind.wrap .i64 (x8+(1:Int))) b3))) (k1)
noncomputable def it2 (Kb1:Kont U El) (n:Nat):Kont U El:=iter nm2 (fun st' K'=>exec X (cdp [1,0,1,0,0] bd) .d st' K' (Eblk 0 (cutK nm1 Kb1) (fun _ _=>none)) RR) n
noncomputable def ct1:Kont U El:=fun st=>exec X (cdp [1,1] bd) .d st RR (fun _ _=>none) RR
theorem P0 (l x):exec X (cdp [] bd) (.seq none .d (.seq (some nm1) (.seq none .d (.block (.loop nm2 .d))) .d)) (fr0 l x) RR (fun _ _=>none) RR=sh0 l x (fun y0 y1 y2 y3=>(hid (it2 (hid ct1) 100000)) (fr2 y0 y1 y2 y3)):=by kernel_rfl
theorem P1:ct1 (fr1)=sh1:=by kernel_rfl
theorem P2 (s0 x7 x8 b3) (Kb1 Kb2:Kont U El):exec X (cdp [1,0,1,0,0] bd) .d (fr2 s0 x7 x8 b3) (cutK nm2 Kb2) (Eblk 0 (cutK nm1 Kb1) (fun _ _=>none)) RR=sh2 s0 x7 x8 b3 (Kb1 (fr1)) (fun y0 y1 y2 y3=>Kb2 (fr2 y0 y1 y2 y3)):=by kernel_rfl
noncomputable def f1:R:=sh1
noncomputable def f2:Nat→Y2
 | 0=>fun _ _ _ _=>none
 | n+1=>fun s0 x7 x8 b3=>sh2 s0 x7 x8 b3 f1 (f2 n)
noncomputable def f0 (l:List Pair) (x:Pair):R:=sh0 l x (f2 100000)
theorem T1:(hid ct1) (fr1)=f1:=by
 refine (congrFun (hid_eq _) _).trans <| (P1).trans ?_
 show _=sh1
 rfl
theorem T2:∀ (n:Nat),∀ s0 x7 x8 b3,it2 (hid ct1) n (fr2 s0 x7 x8 b3)=f2 n s0 x7 x8 b3:=by
  intro n
  induction n with
  | zero=>intros; rfl
  | succ n ih =>
    intro s0 x7 x8 b3
    refine (P2 s0 x7 x8 b3 (hid ct1) (it2 (hid ct1) n)).trans ?_
    show _=sh2 s0 x7 x8 b3 f1 (f2 n)
    simp only [T1,ih]
theorem H2 (s0 x7 x8 b3):hid (it2 (hid ct1) 100000) (fr2 s0 x7 x8 b3)=f2 100000 s0 x7 x8 b3:=(congrFun (hid_eq _) _).trans (T2 100000 s0 x7 x8 b3)
theorem T0 (l x):exec X bd (.seq none .d (.seq (some nm1) (.seq none .d (.block (.loop nm2 .d))) .d)) (fr0 l x) RR (fun _ _=>none) RR=f0 l x:=by
 refine (P0 l x).trans ?_
 show _=sh0 l x (f2 100000)
 simp only [H2]
theorem run (l x):runFn X bd (.seq none .d (.seq (some nm1) (.seq none .d (.block (.loop nm2 .d))) .d)) nmR [4] [] [(.lst .pair l),(.agg [(.int .i64 x.p0),(.int .i64 x.p1)])]=f0 l x:=T0 l x
theorem f0_eq (l:List Pair) (x:Pair) (h:(nle (List.length l) 90000)=true):f0 l x=outI (findZ (eqPr x) 0 l):=by
 have hl:=nleI h
 refine (grun_eq l (by omega) (fun n_ (_:Unit) i_=>f2 n_ l (Int.ofNat l.length) i_ x) _ (fun _=>outI (-1)) (fun n_ u_ i_ hi_=>?_) (fun n_ u_=>?_) 100000 0 () (by omega) (by omega)).trans (grun_find (eqPr x) outI l 0)
 ·show sh2 l (Int.ofNat l.length) i_ x f1 (f2 n_)=_
  unfold sh2
  rw [iltT (by simp; omega),inbT hi_,toNat_nat,getD_lt hi_]
  rfl
 ·show sh2 l (Int.ofNat l.length) (l.length:Int) x f1 (f2 n_)=_
  unfold sh2
  rw [iltF (by simp)]
  rfl
theorem ok:CtxOk Tryz.prog X:=ctxOk tab spN dpN
theorem okM:MOk Tryz.prog X:=fun g sp h=>by cases h
theorem spec (l:List Pair) (x:Pair) (h:(nle (List.length l) 90000)=true):CallSpec Tryz.prog E 79 [(.lst .pair l),(.agg [(.int .i64 x.p0),(.int .i64 x.p1)])] (.int .i64 (findZ (eqPr x) 0 l)) [] :=
 rfs ok okM Tryz.call79 Tryz.func79 ((run l x).trans (f0_eq l x h))
noncomputable def sp:Sp U El:=fun args k=>match args with
 | [.lst .pair l,.agg [.int .i64 x_p0,.int .i64 x_p1]]=>chk (nle (List.length l) 90000) (k (.int .i64 (findZ (eqPr (⟨x_p0,x_p1⟩:Pair)) 0 l)) [])
 | _=>none
theorem spOk:SpOk Tryz.prog E 79 sp:=⟨fun vs=>by unfold sp;split;exact det_c _ _ _;exact ⟨none,fun _=>rfl⟩,fun vs k r h=>by unfold sp at h;split at h;(obtain ⟨h1,h2⟩:=chk_some h;exact ⟨_,_,spec _ ⟨_,_⟩ h1,h2⟩);cases h⟩
end idxP
namespace hasP
noncomputable def bd:Code:=(Tryz.f34.body).getD .skip
noncomputable def X:Ctx U El:=⟨E,tds,zeros,eqs,specOf [(79,idxP.sp)],100000,9,dspecOf [],fun _=>none,fun _=>none⟩
noncomputable def nmR:Norm U:=⟨[],[4],[],[],[],[],[]⟩
noncomputable def RR:Kont U El:=fun st=>normK nmR st (retFin [4] [])
noncomputable def fr0 (l:List Pair) (x:Pair):St U El:=⟨[(0,(.lst .pair l)),(1,(.agg [(.int .i64 x.p0),(.int .i64 x.p1)]))],[]⟩
noncomputable def sh0 (l:List Pair) (x:Pair):R :=
 chk (nle (List.length l) 90000) (some ((.bool (ile (0:Int) (findZ (eqPr x) 0 l))),[]))
theorem P0 (l x):exec X (cdp [] bd) .d (fr0 l x) RR (fun _ _=>none) RR=sh0 l x:=by kernel_rfl
noncomputable def f0 (l:List Pair) (x:Pair):R:=sh0 l x
theorem T0 (l x):exec X bd .d (fr0 l x) RR (fun _ _=>none) RR=f0 l x:=by
 refine (P0 l x).trans ?_
 show _=sh0 l x
 rfl
theorem run (l x):runFn X bd .d nmR [4] [] [(.lst .pair l),(.agg [(.int .i64 x.p0),(.int .i64 x.p1)])]=f0 l x:=T0 l x
theorem f0_eq (l:List Pair) (x:Pair) (h:(nle (List.length l) 90000)=true):f0 l x=outB (List.any l (eqPr x)):=by
 show sh0 l x=_
 unfold sh0
 rw [h,← findZ_any (eqPr x) l 0]
 rfl
theorem ok:CtxOk Tryz.prog X:=ctxOk tab (spC idxP.spOk spN) dpN
theorem okM:MOk Tryz.prog X:=fun g sp h=>by cases h
theorem spec (l:List Pair) (x:Pair) (h:(nle (List.length l) 90000)=true):CallSpec Tryz.prog E 34 [(.lst .pair l),(.agg [(.int .i64 x.p0),(.int .i64 x.p1)])] (.bool (List.any l (eqPr x))) [] :=
 rfs ok okM Tryz.call34 Tryz.func34 ((run l x).trans (f0_eq l x h))
noncomputable def sp:Sp U El:=fun args k=>match args with
 | [.lst .pair l,.agg [.int .i64 x_p0,.int .i64 x_p1]]=>chk (nle (List.length l) 90000) (k (.bool (List.any l (eqPr (⟨x_p0,x_p1⟩:Pair)))) [])
 | _=>none
theorem spOk:SpOk Tryz.prog E 34 sp:=⟨fun vs=>by unfold sp;split;exact det_c _ _ _;exact ⟨none,fun _=>rfl⟩,fun vs k r h=>by unfold sp at h;split at h;(obtain ⟨h1,h2⟩:=chk_some h;exact ⟨_,_,spec _ ⟨_,_⟩ h1,h2⟩);cases h⟩
end hasP
end Go.Proofs.YthdimnlkcgchoaaGreat
