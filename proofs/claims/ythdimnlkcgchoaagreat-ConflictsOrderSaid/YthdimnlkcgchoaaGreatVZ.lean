import Derived.Test.YthdimnlkcgchoaaGreatVX
namespace Go.Proofs.YthdimnlkcgchoaaGreat
set_option linter.all false
set_option maxRecDepth 100000
theorem findI_len' (n:Net):∀ (l:List Rule) (i:Nat),(findI n i l).length≤l.length * l.length:=by
  intro l
  induction l with
  | nil=>intro i; simp [findI]
  | cons r l ih =>
    intro i
    have h1:=ih (i+1)
    have h2:=findFrom_len n (i:Int) r l (i+1)
    simp only [findI,List.length_append,List.length_cons,Nat.add_mul,Nat.mul_add]
    omega
end Go.Proofs.YthdimnlkcgchoaaGreat
namespace Go.Proofs.YthdimnlkcgchoaaGreat
set_option linter.all false
set_option maxRecDepth 100000
noncomputable def eqInt (x y:Int):Bool:=x == y
noncomputable def smallI (fl:List Int) (x:Int):Bool:=nle fl.length 90000
namespace idxI
noncomputable def bd:Code:=(Tryz.f81.body).getD .skip
noncomputable def X:Ctx U El:=⟨E,tds,zeros,eqs,specOf [],100000,19,dspecOf [],fun _=>none,fun _=>none⟩
noncomputable def nmR:Norm U:=⟨[],[4],[],[],[],[],[]⟩
noncomputable def RR:Kont U El:=fun st=>normK nmR st (retFin [4] [])
noncomputable def nm1:Norm U:=⟨[],[],[],[],[],[],[]⟩
noncomputable def nm2:Norm U:=⟨[],[0,1,7,8],[],[],[],[],[]⟩
abbrev Y1:=R
abbrev Y2:=(List Int)→Int→Int→Int→R
noncomputable def fr0 (l:List Int) (x:Int):St U El:=⟨[(0,(.lst .int l)),(1,(.int .i64 x))],[]⟩
noncomputable def fr1:St U El:=⟨[],[]⟩
noncomputable def fr2 (s0:List Int) (v1:Int) (x7:Int) (x8:Int):St U El:=⟨[(0,(.lst .int s0)),(1,(.int .i64 v1)),(7,(.int .i64 x7)),(8,(.int .i64 x8))],[]⟩
noncomputable def sh0 (l:List Int) (x:Int) (k2:Y2):R :=
 k2 l x (Int.ofNat (List.length l)) (0:Int)
noncomputable def sh1:R :=
 some ((.int .i64 (-1:Int)),[])
noncomputable def sh2 (s0:List Int) (v1:Int) (x7:Int) (x8:Int) (k1:Y1) (k2:Y2):R :=
 condB (ilt x8 x7) (chk (inb x8 (List.length s0)) (condB (v1 == (List.getD s0 (Int.toNat x8) d_int)) (some ((.int .i64 x8),[])) (k2 s0 v1 x7 (IntKind.wrap .i64 (x8+(1:Int)))))) (k1)
noncomputable def it2 (Kb1:Kont U El) (n:Nat):Kont U El:=iter nm2 (fun st' K'=>exec X (cdp [1,0,1,0,0] bd) .d st' K' (Eblk 0 (cutK nm1 Kb1) (fun _ _=>none)) RR) n
noncomputable def ct1:Kont U El:=fun st=>exec X (cdp [1,1] bd) .d st RR (fun _ _=>none) RR
theorem P0 (l x):exec X (cdp [] bd) (.seq none .d (.seq (some nm1) (.seq none .d (.block (.loop nm2 .d))) .d)) (fr0 l x) RR (fun _ _=>none) RR=sh0 l x (fun y0 y1 y2 y3=>(hid (it2 (hid ct1) 100000)) (fr2 y0 y1 y2 y3)):=by kernel_rfl
theorem P1:ct1 (fr1)=sh1:=by kernel_rfl
theorem P2 (s0 v1 x7 x8) (Kb1 Kb2:Kont U El):exec X (cdp [1,0,1,0,0] bd) .d (fr2 s0 v1 x7 x8) (cutK nm2 Kb2) (Eblk 0 (cutK nm1 Kb1) (fun _ _=>none)) RR=sh2 s0 v1 x7 x8 (Kb1 (fr1)) (fun y0 y1 y2 y3=>Kb2 (fr2 y0 y1 y2 y3)):=by kernel_rfl
noncomputable def f1:R:=sh1
noncomputable def f2:Nat→Y2
 | 0=>fun _ _ _ _=>none
 | n+1=>fun s0 v1 x7 x8=>sh2 s0 v1 x7 x8 f1 (f2 n)
noncomputable def f0 (l:List Int) (x:Int):R:=sh0 l x (f2 100000)
theorem T1:(hid ct1) (fr1)=f1:=by
 refine (congrFun (hid_eq _) _).trans <| (P1).trans ?_
 show _=sh1
 rfl
theorem T2:∀ (n:Nat),∀ s0 v1 x7 x8,it2 (hid ct1) n (fr2 s0 v1 x7 x8)=f2 n s0 v1 x7 x8:=by
  intro n
  induction n with
  | zero=>intros; rfl
  | succ n ih =>
    intro s0 v1 x7 x8
    refine (P2 s0 v1 x7 x8 (hid ct1) (it2 (hid ct1) n)).trans ?_
    show _=sh2 s0 v1 x7 x8 f1 (f2 n)
    simp only [T1,ih]
theorem H2 (s0 v1 x7 x8):hid (it2 (hid ct1) 100000) (fr2 s0 v1 x7 x8)=f2 100000 s0 v1 x7 x8:=(congrFun (hid_eq _) _).trans (T2 100000 s0 v1 x7 x8)
theorem T0 (l x):exec X bd (.seq none .d (.seq (some nm1) (.seq none .d (.block (.loop nm2 .d))) .d)) (fr0 l x) RR (fun _ _=>none) RR=f0 l x:=by
 refine (P0 l x).trans ?_
 show _=sh0 l x (f2 100000)
 simp only [H2]
theorem run (l x):runFn X bd (.seq none .d (.seq (some nm1) (.seq none .d (.block (.loop nm2 .d))) .d)) nmR [4] [] [(.lst .int l),(.int .i64 x)]=f0 l x:=T0 l x
theorem f0_eq (l:List Int) (x:Int) (h:(nle (List.length l) 90000)=true):f0 l x=outI (findZ (eqInt x) 0 l):=by
 have hl:=nleI h
 refine (grun_eq l (by omega) (fun n_ (_:Unit) i_=>f2 n_ l x (Int.ofNat l.length) i_) _ (fun _=>outI (-1)) (fun n_ u_ i_ hi_=>?_) (fun n_ u_=>?_) 100000 0 () (by omega) (by omega)).trans (grun_find (eqInt x) outI l 0)
 ·show sh2 l x (Int.ofNat l.length) i_ f1 (f2 n_)=_
  unfold sh2
  rw [iltT (by simp; omega),inbT hi_,toNat_nat,getD_lt hi_]
  rfl
 ·show sh2 l x (Int.ofNat l.length) (l.length:Int) f1 (f2 n_)=_
  unfold sh2
  rw [iltF (by simp)]
  rfl
theorem ok:CtxOk Tryz.prog X:=ctxOk tab spN dpN
theorem okM:MOk Tryz.prog X:=fun g sp h=>by cases h
theorem spec (l:List Int) (x:Int) (h:(nle (List.length l) 90000)=true):CallSpec Tryz.prog E 81 [(.lst .int l),(.int .i64 x)] (.int .i64 (findZ (eqInt x) 0 l)) [] :=
 rfs ok okM Tryz.call81 Tryz.func81 ((run l x).trans (f0_eq l x h))
noncomputable def sp:Sp U El:=fun args k=>match args with
 | [.lst .int l,.int .i64 x]=>chk (nle (List.length l) 90000) (k (.int .i64 (findZ (eqInt x) 0 l)) [])
 | _=>none
theorem spOk:SpOk Tryz.prog E 81 sp:=⟨fun vs=>by unfold sp;split;exact det_c _ _ _;exact ⟨none,fun _=>rfl⟩,fun vs k r h=>by unfold sp at h;split at h;(obtain ⟨h1,h2⟩:=chk_some h;exact ⟨_,_,spec _ _ h1,h2⟩);cases h⟩
end idxI
namespace hasI
noncomputable def bd:Code:=(Tryz.f37.body).getD .skip
noncomputable def X:Ctx U El:=⟨E,tds,zeros,eqs,specOf [(81,idxI.sp)],100000,9,dspecOf [],fun _=>none,fun _=>none⟩
noncomputable def nmR:Norm U:=⟨[],[4],[],[],[],[],[]⟩
noncomputable def RR:Kont U El:=fun st=>normK nmR st (retFin [4] [])
noncomputable def fr0 (l:List Int) (x:Int):St U El:=⟨[(0,(.lst .int l)),(1,(.int .i64 x))],[]⟩
noncomputable def sh0 (l:List Int) (x:Int):R :=
 chk (nle (List.length l) 90000) (some ((.bool (ile (0:Int) (findZ (eqInt x) 0 l))),[]))
theorem P0 (l x):exec X (cdp [] bd) .d (fr0 l x) RR (fun _ _=>none) RR=sh0 l x:=by kernel_rfl
noncomputable def f0 (l:List Int) (x:Int):R:=sh0 l x
theorem T0 (l x):exec X bd .d (fr0 l x) RR (fun _ _=>none) RR=f0 l x:=by
 refine (P0 l x).trans ?_
 show _=sh0 l x
 rfl
theorem run (l x):runFn X bd .d nmR [4] [] [(.lst .int l),(.int .i64 x)]=f0 l x:=T0 l x
theorem f0_eq (l:List Int) (x:Int) (h:(nle (List.length l) 90000)=true):f0 l x=outB (List.any l (eqInt x)):=by
 show sh0 l x=_
 unfold sh0
 rw [h,← findZ_any (eqInt x) l 0]
 rfl
theorem ok:CtxOk Tryz.prog X:=ctxOk tab (spC idxI.spOk spN) dpN
theorem okM:MOk Tryz.prog X:=fun g sp h=>by cases h
theorem spec (l:List Int) (x:Int) (h:(nle (List.length l) 90000)=true):CallSpec Tryz.prog E 37 [(.lst .int l),(.int .i64 x)] (.bool (List.any l (eqInt x))) [] :=
 rfs ok okM Tryz.call37 Tryz.func37 ((run l x).trans (f0_eq l x h))
noncomputable def sp:Sp U El:=fun args k=>match args with
 | [.lst .int l,.int .i64 x]=>chk (nle (List.length l) 90000) (k (.bool (List.any l (eqInt x))) [])
 | _=>none
theorem spOk:SpOk Tryz.prog E 37 sp:=⟨fun vs=>by unfold sp;split;exact det_c _ _ _;exact ⟨none,fun _=>rfl⟩,fun vs k r h=>by unfold sp at h;split at h;(obtain ⟨h1,h2⟩:=chk_some h;exact ⟨_,_,spec _ _ h1,h2⟩);cases h⟩
end hasI
theorem deadI_len' (n:Net):∀ (l:List Rule) (i:Nat),(deadI n i l).length≤l.length:=by
  intro l
  induction l with
  | nil=>intro i; simp [deadI]
  | cons r l ih =>
    intro i
    have:=ih (i+1)
    simp only [deadI,List.length_cons]
    cases leastB n.nds r.rw
    · simp only [cond_false,List.length_cons]; omega
    · simp only [cond_true]; omega
end Go.Proofs.YthdimnlkcgchoaaGreat
