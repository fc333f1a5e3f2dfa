/- Equality of surfaces; grids, the code's. -/
import Derived.Test.YtnofdcckddfooaaDoorVB
namespace Go.Proofs.YtnofdcckddfooaaDoor
set_option linter.unusedSectionVars false
set_option linter.unusedSimpArgs false
set_option linter.unusedVariables false
set_option maxRecDepth 100000
noncomputable def badZ (z:Int):Bool:=ilt z (-4194304)||ilt 4194304 z
noncomputable def spotG (C:Nat) (st:Int) (lv:List Int) (t:Nat):Spot:=⟨IntKind.wrap .i64 (((t%(C+1):Nat):Int) * st),IntKind.wrap .i64 (((t / (C+1):Nat):Int) * st),List.getD lv t d_int⟩
noncomputable def gridS (C:Nat) (st:Int) (lv:List Int):List Spot:=(List.range lv.length).map (spotG C st lv)
def faceG (C i k:Nat):List Face:=[⟨((i * (C+1)+k:Nat):Int),((i * (C+1)+k+1:Nat):Int),((i * (C+1)+k+C+2:Nat):Int),0⟩,⟨((i * (C+1)+k:Nat):Int),((i * (C+1)+k+C+2:Nat):Int),((i * (C+1)+k+C+1:Nat):Int),0⟩]
def rowG (C i k m:Nat):List Face:=(List.range' k m).flatMap (faceG C i)
def gridG (C i m:Nat):List Face:=(List.range' i m).flatMap fun i=>rowG C i 0 C
noncomputable def gridB (r c st:Int):Bool := !(ile 1 r&&(ile 1 c&&(ile 1 st&&(ile (r * st) 16777216&&ile (c * st) 16777216))))
noncomputable def gridE (r c st:Int) (lv:List Int):Int:=bif gridB r c st then 2 else bif ilt 2000 ((r+1) * (c+1))||ilt 4000 (2 * r * c) then 4 else bif Int.ofNat lv.length != (r+1) * (c+1) then 3 else bif List.any lv badZ then 2 else 0
noncomputable def gridM (r c st:Int) (lv:List Int):Mesh:=bif gridE r c st lv == 0 then ⟨gridS c.toNat st lv,gridG c.toNat 0 r.toNat⟩ else ⟨[],[]⟩
noncomputable def outM (m:Mesh) (e:Int):R:=some ((.tup [(.agg [(.lst .spot m.ms),(.lst .face m.mf)]),(.int .i64 e)]),[])
theorem mul_le_of (a b B:Int) (ha:1≤a) (hb:1≤b) (h:a * b≤B):a≤B∧b≤B:=by
  have h1:a * 1≤a * b:=Int.mul_le_mul_of_nonneg_left hb (by omega)
  have h2:1 * b≤a * b:=Int.mul_le_mul_of_nonneg_right ha (by omega)
  omega
structure GG (r c st:Int) (lv:List Int) (R C:Nat):Prop where
  er:r=(R:Int)
  ec:c=(C:Int)
  r1:1≤R
  c1:1≤C
  st1:1≤st
  st9:st≤16777216
  rs:r * st≤16777216
  cs:c * st≤16777216
  n:(R+1) * (C+1)≤2000
  f:2 * R * C≤4000
  l:lv.length=(R+1) * (C+1)
theorem GG.small {r c st:Int} {lv:List Int} {R C:Nat} (h:GG r c st lv R C):R≤1000∧C≤1000:=by
  have h1:=h.n; have h2:=h.r1; have h3:=h.c1
  constructor
  · have : (R + 1) * 2 ≤ (R + 1) * (C + 1) := Nat.mul_le_mul_left _ (by omega)
    omega
  · have : 2 * (C + 1) ≤ (R + 1) * (C + 1) := Nat.mul_le_mul_right _ (by omega)
    omega
theorem wrapN {x:Int} {n:Nat} (h:x=(n:Int)) (hn:n≤1000000000):IntKind.wrap .i64 x=(n:Int):=by rw [h]; exact wrapI (by omega) (by omega)
theorem at_eq {C i k:Nat} (hi:i≤1000) (hC:C≤1000) (hk:k≤1000):IntKind.wrap .i64 (IntKind.wrap .i64 ((i:Int) * IntKind.wrap .i64 ((C:Int)+1))+(k:Int))=((i * (C+1)+k:Nat):Int):=by
  have hm:i * (C+1)≤1000 * 1001:=Nat.mul_le_mul hi (by omega)
  rw [wrapN (x:=(C:Int)+1) (n:=C+1) (by omega) (by omega),wrapN (x:=(i:Int) * ((C+1:Nat):Int)) (n:=i * (C+1)) (by rw [Int.natCast_mul]) (by omega)]
  exact wrapN (by omega) (by omega)
namespace gr1
noncomputable def bd:Code:=(Tryd.f15.body).getD .skip
noncomputable def X:Ctx U El:=⟨E,tds,zeros,eqs,specOf [],100000,9,dspecOf [],fun _=>none⟩
noncomputable def nmR:Norm U:=⟨[],[2],[],[],[],[],[]⟩
noncomputable def RR:Kont U El:=fun st=>normK nmR st (retFin [2] [])
noncomputable def fr0 (x:Int):St U El:=⟨[(0,(.int .i64 x))],[]⟩
noncomputable def sh0 (x:Int):R :=
  condB (ilt x (-4194304:Int)) (some ((.bool true),[])) (some ((.bool (ilt (4194304:Int) x)),[]))
theorem P0 (x):exec X (cdp [] bd) .d (fr0 x) RR (fun _ _=>none) RR=sh0 x:=by kernel_rfl
noncomputable def f0 (x:Int):R:=sh0 x
theorem T0 (x):exec X bd .d (fr0 x) RR (fun _ _=>none) RR=f0 x:=by
  refine (P0 x).trans ?_
  show _=sh0 x
  rfl
theorem run (x):runFn X bd .d nmR [2] [] [(.int .i64 x)]=f0 x:=T0 x
theorem f0_eq (x:Int):f0 x=outB (badZ x):=cOr outB _ _
theorem ok:CtxOk Tryd.prog X:=ctxOk tab spN dpN
theorem okM:MOk Tryd.prog X:=fun g sp h=>by cases h
theorem spec (x:Int):CallSpec Tryd.prog E 15 [(.int .i64 x)] (.bool (badZ x)) [] :=
  runFn_sound ok okM Tryd.call15 Tryd.func15 (by kernel_rfl) (by kernel_rfl) (by kernel_rfl) (by show 1≤9; decide) (by decide) (by rfl) ((run x).trans (f0_eq x))
noncomputable def sp:Sp U El:=fun args k=>match args with
  | [.int .i64 x]=>k (.bool (badZ x)) []
  | _=>none
theorem spOk:SpOk Tryd.prog E 15 sp where
  det:=fun vs=>by
    unfold sp
    split
    · exact ⟨some (_,_),fun _=>rfl⟩
    · exact ⟨none,fun _=>rfl⟩
  ok:=fun vs k r h=>by
    unfold sp at h
    split at h
    · exact ⟨_,_,spec _,h⟩
    · cases h
end gr1
namespace gr1X
noncomputable def bd:Code:=(Tryd.f26.body).getD .skip
noncomputable def X:Ctx U El:=⟨E,tds,zeros,eqs,specOf [(15,gr1.sp)],100000,19,dspecOf [],fun _=>none⟩
noncomputable def nmR:Norm U:=⟨[],[4],[],[],[],[],[]⟩
noncomputable def RR:Kont U El:=fun st=>normK nmR st (retFin [4] [])
noncomputable def nm1:Norm U:=⟨[],[],[],[],[],[],[]⟩
noncomputable def nm2:Norm U:=⟨[],[0,1,7,8],[],[],[],[],[]⟩
abbrev Y1:=R
abbrev Y2:=(List Int)→Int→Int→R
noncomputable def fr0 (l:List Int):St U El:=⟨[(0,(.lst .int l)),(1,(.fn 15 [] []))],[]⟩
noncomputable def fr1:St U El:=⟨[],[]⟩
noncomputable def fr2 (s0:List Int) (x7:Int) (x8:Int):St U El:=⟨[(0,(.lst .int s0)),(1,(.fn 15 [] [])),(7,(.int .i64 x7)),(8,(.int .i64 x8))],[]⟩
noncomputable def sh0 (l:List Int) (k2:Y2):R :=
  k2 l (Int.ofNat (List.length l)) (0:Int)
noncomputable def sh1:R :=
  some ((.int .i64 (-1:Int)),[])
noncomputable def sh2 (s0:List Int) (x7:Int) (x8:Int) (k1:Y1) (k2:Y2):R :=
  condB (ilt x8 x7) (chk (inb x8 (List.length s0)) (condB (badZ (List.getD s0 (Int.toNat x8) d_int)) (some ((.int .i64 x8),[])) (k2 s0 x7 (IntKind.wrap .i64 (x8+(1:Int)))))) (k1)
noncomputable def it2 (Kb1:Kont U El) (n:Nat):Kont U El:=iter nm2 (fun st' K'=>exec X (cdp [1,0,1,0,0] bd) .d st' K' (Eblk 0 (cutK nm1 Kb1) (fun _ _=>none)) RR) n
noncomputable def ct1:Kont U El:=fun st=>exec X (cdp [1,1] bd) .d st RR (fun _ _=>none) RR
theorem P0 (l):exec X (cdp [] bd) (.seq none .d (.seq (some nm1) (.seq none .d (.block (.loop nm2 .d))) .d)) (fr0 l) RR (fun _ _=>none) RR=sh0 l (fun y0 y1 y2=>(hid (it2 (hid ct1) 100000)) (fr2 y0 y1 y2)):=by kernel_rfl
theorem P1:ct1 (fr1)=sh1:=by kernel_rfl
theorem P2 (s0 x7 x8) (Kb1 Kb2:Kont U El):exec X (cdp [1,0,1,0,0] bd) .d (fr2 s0 x7 x8) (cutK nm2 Kb2) (Eblk 0 (cutK nm1 Kb1) (fun _ _=>none)) RR=sh2 s0 x7 x8 (Kb1 (fr1)) (fun y0 y1 y2=>Kb2 (fr2 y0 y1 y2)):=by kernel_rfl
noncomputable def f1:R:=sh1
noncomputable def f2:Nat→Y2
  | 0=>fun _ _ _=>none
  | n+1=>fun s0 x7 x8=>sh2 s0 x7 x8 f1 (f2 n)
noncomputable def f0 (l:List Int):R:=sh0 l (f2 100000)
theorem T1:(hid ct1) (fr1)=f1:=by
  refine (congrFun (hid_eq _) _).trans <| (P1).trans ?_
  show _=sh1
  rfl
theorem T2:∀ (n:Nat),∀ s0 x7 x8,it2 (hid ct1) n (fr2 s0 x7 x8)=f2 n s0 x7 x8:=by
  intro n
  induction n with
  | zero=>intros; rfl
  | succ n ih =>
    intro s0 x7 x8
    refine (P2 s0 x7 x8 (hid ct1) (it2 (hid ct1) n)).trans ?_
    show _=sh2 s0 x7 x8 f1 (f2 n)
    simp only [T1,ih]
theorem H2 (s0 x7 x8):hid (it2 (hid ct1) 100000) (fr2 s0 x7 x8)=f2 100000 s0 x7 x8:=(congrFun (hid_eq _) _).trans (T2 100000 s0 x7 x8)
theorem T0 (l):exec X bd (.seq none .d (.seq (some nm1) (.seq none .d (.block (.loop nm2 .d))) .d)) (fr0 l) RR (fun _ _=>none) RR=f0 l:=by
  refine (P0 l).trans ?_
  show _=sh0 l (f2 100000)
  simp only [H2]
theorem run (l):runFn X bd (.seq none .d (.seq (some nm1) (.seq none .d (.block (.loop nm2 .d))) .d)) nmR [4] [] [(.lst .int l),(.fn 15 [] [])]=f0 l:=T0 l
theorem f0_eq (l:List Int) (h:(nle (List.length l) 90000)=true):f0 l=outI (findZ badZ 0 l):=by
  have hl:=nleI h
  refine (grun_eq l (by omega) (fun n_ (_:Unit) i_=>f2 n_ l (Int.ofNat l.length) i_) _ (fun _=>outI (-1)) (fun n_ u_ i_ hi_ => ?_) (fun n_ u_ => ?_) 100000 0 () (by omega) (by omega)).trans (grun_find badZ outI l 0)
  · show sh2 l (Int.ofNat l.length) i_ f1 (f2 n_) = _
    unfold sh2
    rw [iltT (by simp; omega),inbT hi_,toNat_nat,getD_lt hi_]
    rfl
  · show sh2 l (Int.ofNat l.length) (l.length : Int) f1 (f2 n_) = _
    unfold sh2
    rw [iltF (by simp)]
    rfl
theorem ok:CtxOk Tryd.prog X:=ctxOk tab (spC gr1.spOk spN) dpN
theorem okM:MOk Tryd.prog X:=fun g sp h=>by cases h
theorem spec (l:List Int) (h:(nle (List.length l) 90000)=true):CallSpec Tryd.prog E 26 [(.lst .int l),(.fn 15 [] [])] (.int .i64 (findZ badZ 0 l)) [] :=
  runFn_sound ok okM Tryd.call26 Tryd.func26 (by kernel_rfl) (by kernel_rfl) (by kernel_rfl) (by show 2≤19; decide) (by decide) (by rfl) ((run l).trans (f0_eq l h))
noncomputable def sp:Sp U El:=fun args k=>match args with
  | [.lst .int l,.fn 15 [] []]=>chk (nle (List.length l) 90000) (k (.int .i64 (findZ badZ 0 l)) [])
  | _=>none
theorem spOk:SpOk Tryd.prog E 26 sp where
  det:=fun vs=>by
    unfold sp
    split
    · exact det_c _ _ _
    · exact ⟨none,fun _=>rfl⟩
  ok:=fun vs k r h=>by
    unfold sp at h
    split at h
    · obtain ⟨h1, h2⟩ := chk_some h
      exact ⟨_,_,spec _ h1,h2⟩
    · cases h
end gr1X
namespace gr1C
noncomputable def bd:Code:=(Tryd.f14.body).getD .skip
noncomputable def X:Ctx U El:=⟨E,tds,zeros,eqs,specOf [(26,gr1X.sp)],100000,9,dspecOf [],fun _=>none⟩
noncomputable def nmR:Norm U:=⟨[],[4],[],[],[],[],[]⟩
noncomputable def RR:Kont U El:=fun st=>normK nmR st (retFin [4] [])
noncomputable def fr0 (l:List Int):St U El:=⟨[(0,(.lst .int l)),(1,(.fn 15 [] []))],[]⟩
noncomputable def sh0 (l:List Int):R :=
  chk (nle (List.length l) 90000) (some ((.bool (ile (0:Int) (findZ badZ 0 l))),[]))
theorem P0 (l):exec X (cdp [] bd) .d (fr0 l) RR (fun _ _=>none) RR=sh0 l:=by kernel_rfl
noncomputable def f0 (l:List Int):R:=sh0 l
theorem T0 (l):exec X bd .d (fr0 l) RR (fun _ _=>none) RR=f0 l:=by
  refine (P0 l).trans ?_
  show _=sh0 l
  rfl
theorem run (l):runFn X bd .d nmR [4] [] [(.lst .int l),(.fn 15 [] [])]=f0 l:=T0 l
theorem f0_eq (l:List Int) (h:(nle (List.length l) 90000)=true):f0 l=outB (List.any l badZ):=by
  show chk _ (outB _)=_
  rw [h,chkT,findZ_any]
theorem ok:CtxOk Tryd.prog X:=ctxOk tab (spC gr1X.spOk spN) dpN
theorem okM:MOk Tryd.prog X:=fun g sp h=>by cases h
theorem spec (l:List Int) (h:(nle (List.length l) 90000)=true):CallSpec Tryd.prog E 14 [(.lst .int l),(.fn 15 [] [])] (.bool (List.any l badZ)) [] :=
  runFn_sound ok okM Tryd.call14 Tryd.func14 (by kernel_rfl) (by kernel_rfl) (by kernel_rfl) (by show 2≤9; decide) (by decide) (by rfl) ((run l).trans (f0_eq l h))
noncomputable def sp:Sp U El:=fun args k=>match args with
  | [.lst .int l,.fn 15 [] []]=>chk (nle (List.length l) 90000) (k (.bool (List.any l badZ)) [])
  | _=>none
theorem spOk:SpOk Tryd.prog E 14 sp where
  det:=fun vs=>by
    unfold sp
    split
    · exact det_c _ _ _
    · exact ⟨none,fun _=>rfl⟩
  ok:=fun vs k r h=>by
    unfold sp at h
    split at h
    · obtain ⟨h1, h2⟩ := chk_some h
      exact ⟨_,_,spec _ h1,h2⟩
    · cases h
end gr1C
theorem tmodN (t m:Nat):Int.tmod (t:Int) (m:Int)=((t%m:Nat):Int):=by
  rw [Int.tmod_eq_emod_of_nonneg (by omega)]
  exact (Int.natCast_emod t m).symm
theorem tdivN (t m:Nat):Int.tdiv (t:Int) (m:Int)=((t / m:Nat):Int):=by
  rw [Int.tdiv_eq_ediv_of_nonneg (by omega)]
  exact (Int.natCast_ediv t m).symm
theorem roomF (l:List Face) (x y:Face) (h:l.length≤10000000):(nle ((List.length l+List.length ([x,y]:List Face)) * 32) 140737488355328&&nle (List.length l+List.length ([x,y]:List Face)) 9223372036854775807)=true:=by
  rw [nleT (show (List.length l+List.length ([x,y]:List Face)) * 32≤140737488355328 by simp; omega),nleT (show List.length l+List.length ([x,y]:List Face)≤9223372036854775807 by simp; omega)]
  rfl
theorem roomS (l:List Spot) (x:Spot) (h:l.length≤10000000):(nle ((List.length l+List.length ([x]:List Spot)) * 24) 140737488355328&&nle (List.length l+List.length ([x]:List Spot)) 9223372036854775807)=true:=by
  rw [nleT (show (List.length l+List.length ([x]:List Spot)) * 24≤140737488355328 by simp; omega),nleT (show List.length l+List.length ([x]:List Spot)≤9223372036854775807 by simp; omega)]
  rfl
theorem rowG_len (C i:Nat):∀ m k,(rowG C i k m).length=2 * m:=by
  intro m
  induction m with
  | zero=>intro k; rfl
  | succ m ih =>
    intro k
    have:rowG C i k (m+1)=faceG C i k++rowG C i (k+1) m:=rfl
    rw [this,List.length_append,ih]
    show 2+2 * m=_
    omega
theorem rowG_next {C i k:Nat} (h:k < C):rowG C i k (C - k)=faceG C i k++rowG C i (k+1) (C - (k+1)):=by
  rw [show C - k=(C - (k+1))+1 by omega]
  rfl
theorem gridG_next {C i R:Nat} (h:i < R):gridG C i (R - i)=rowG C i 0 C++gridG C (i+1) (R - (i+1)):=by
  rw [show R - i=(R - (i+1))+1 by omega]
  rfl
theorem gridS_len (C:Nat) (st:Int) (lv:List Int):(gridS C st lv).length=lv.length:=by simp [gridS]
theorem gridS_get {C:Nat} {st:Int} {lv:List Int} {t:Nat} (h:t < lv.length):(gridS C st lv)[t]'(by rw [gridS_len]; exact h)=spotG C st lv t:=by simp [gridS]
theorem cor1 {A:Nat} (h:A≤100000000):IntKind.wrap .i64 ((A:Int)+1)=((A+1:Nat):Int):=wrapN (by omega) (by omega)
theorem corC {A C:Nat} (h:A≤100000000) (hC:C≤1000):IntKind.wrap .i64 ((A:Int)+(C:Int))=((A+C:Nat):Int):=wrapN (by omega) (by omega)
theorem gridB_T {r c st:Int} (h:r < 1∨c < 1∨st < 1∨16777216 < r * st∨16777216 < c * st):gridB r c st=true:=by
  unfold gridB
  rw [Bool.not_eq_true',Bool.eq_false_iff]
  intro hh
  simp only [Bool.and_eq_true] at hh
  have h1:=ileI hh.1; have h2:=ileI hh.2.1; have h3:=ileI hh.2.2.1; have h4:=ileI hh.2.2.2.1; have h5:=ileI hh.2.2.2.2
  omega
theorem gridB_F {r c st:Int} (h1:1≤r) (h2:1≤c) (h3:1≤st) (h4:r * st≤16777216) (h5:c * st≤16777216):gridB r c st=false:=by
  unfold gridB
  rw [ileT h1,ileT h2,ileT h3,ileT h4,ileT h5]
  rfl
theorem out_bad {r c st:Int} {lv:List Int} {e:Int} (h:gridE r c st lv=e) (he:e≠0):outM (gridM r c st lv) (gridE r c st lv)=some ((.tup [(.agg [(.lst .spot ([]:List Spot)),(.lst .face ([]:List Face))]),(.int .i64 e)]),[]):=by
  unfold gridM
  rw [h,show (e == 0)=false from beq_eq_false_iff_ne.2 he]
  rfl
theorem prod_ok {r c:Int} (h1:1≤r) (h2:1≤c) (h3:r≤16777216) (h4:c≤16777216):IntKind.wrap .i64 (IntKind.wrap .i64 (r+1) * IntKind.wrap .i64 (c+1))=(r+1) * (c+1)∧IntKind.wrap .i64 (IntKind.wrap .i64 (2 * r) * c)=2 * r * c:=by
  have a1:(r+1) * (c+1)≤16777217 * 16777217:=Int.mul_le_mul (by omega) (by omega) (by omega) (by omega)
  have a2:0≤(r+1) * (c+1):=Int.mul_nonneg (by omega) (by omega)
  have a3:2 * r * c≤33554432 * 16777216:=Int.mul_le_mul (by omega) (by omega) (by omega) (by omega)
  have a4:0≤2 * r * c:=Int.mul_nonneg (by omega) (by omega)
  rw [wrapI (x:=r+1) (by omega) (by omega),wrapI (x:=c+1) (by omega) (by omega),wrapI (x:=2 * r) (by omega) (by omega)]
  exact ⟨wrapI (by omega) (by omega),wrapI (by omega) (by omega)⟩
theorem gg_of {r c st:Int} {lv:List Int} (h1:1≤r) (h2:1≤c) (h3:1≤st) (h4:r * st≤16777216) (h5:c * st≤16777216) (h6:¬ 2000 < (r+1) * (c+1)) (h7:¬ 4000 < 2 * r * c) (h8:(Int.ofNat lv.length)=(r+1) * (c+1)):GG r c st lv r.toNat c.toNat:=by
  have e1:r=(r.toNat:Int):=by omega
  have e2:c=(c.toNat:Int):=by omega
  generalize r.toNat=R at e1 ⊢
  generalize c.toNat=C at e2 ⊢
  subst e1 e2
  have h6':((R:Int)+1) * ((C:Int)+1)=(((R+1) * (C+1):Nat):Int):=by push_cast; rfl
  have h7':2 * (R:Int) * (C:Int)=((2 * R * C:Nat):Int):=by push_cast; rfl
  rw [h6'] at h6 h8
  rw [h7'] at h7
  have hm:=mul_le_of _ _ _ h1 h3 h4
  exact ⟨rfl,rfl,by omega,by omega,h3,hm.2,h4,h5,by omega,by omega,Int.ofNat.inj h8⟩
namespace grid
noncomputable def bd:Code:=(Tryd.f6.body).getD .skip
noncomputable def X:Ctx U El:=⟨E,tds,zeros,eqs,specOf [(14,gr1C.sp)],100000,136,dspecOf [],fun _=>none⟩
noncomputable def nmR:Norm U:=⟨[],[136,9],[],[],[],[(136,0,.spot),(136,1,.face)],[]⟩
noncomputable def RR:Kont U El:=fun st=>loadRes X 136 [(8,27)] 136 st fun st=>normK nmR st (retFin [136,9] [])
noncomputable def nm1:Norm U:=⟨[],[0,1,2,3,8],[8],[],[],[],[]⟩
noncomputable def nm2:Norm U:=⟨[],[0,1,2,3,8],[8],[],[],[],[]⟩
noncomputable def nm3:Norm U:=⟨[],[0,1,8,11],[8,11,500001100],[],[(11,0,.spot,500001100)],[],[]⟩
noncomputable def nm4:Norm U:=⟨[],[0,1,2,8,11,69,70,71],[8,11,500001100],[],[(11,0,.spot,500001100)],[],[]⟩
noncomputable def nm5:Norm U:=⟨[],[8,11],[8,11,500001100,500001101],[],[(11,0,.spot,500001100),(11,1,.face,500001101)],[],[]⟩
noncomputable def nm6:Norm U:=⟨[],[1,8,11,96,97],[8,11,500001100,500001101],[],[(11,0,.spot,500001100),(11,1,.face,500001101)],[],[]⟩
noncomputable def nm7:Norm U:=⟨[],[1,8,11,96,97],[8,11,500001100,500001101],[],[(11,0,.spot,500001100),(11,1,.face,500001101)],[],[]⟩
noncomputable def nm8:Norm U:=⟨[],[1,8,11,14,96,97,100,101],[8,11,500001100,500001101],[],[(11,0,.spot,500001100),(11,1,.face,500001101)],[],[]⟩
abbrev Y1:=Int→Int→Int→(List Int)→R
abbrev Y2:=Int→Int→Int→(List Int)→R
abbrev Y3:=Int→Int→(List Spot)→R
abbrev Y4:=Int→Int→Int→(List Int)→Int→Int→(List Spot)→R
abbrev Y5:=(List Spot)→(List Face)→R
abbrev Y6:=Int→Int→Int→(List Spot)→(List Face)→R
abbrev Y7:=Int→Int→Int→(List Spot)→(List Face)→R
abbrev Y8:=Int→Int→Int→Int→Int→Int→(List Spot)→(List Face)→R
noncomputable def fr0 (r:Int) (c:Int) (st:Int) (lv:List Int):St U El:=⟨[(0,(.int .i64 r)),(1,(.int .i64 c)),(2,(.int .i64 st)),(3,(.lst .int lv))],[]⟩
noncomputable def fr1 (dA:Int) (aA:Int) (fA:Int) (eA:List Int):St U El:=⟨[(0,(.int .i64 dA)),(1,(.int .i64 aA)),(2,(.int .i64 fA)),(3,(.lst .int eA)),(8,(.ptr 8 0))],[(8,(.box 0 [.nils,.nils]))]⟩
noncomputable def fr2 (dA:Int) (aA:Int) (fA:Int) (eA:List Int):St U El:=⟨[(0,(.int .i64 dA)),(1,(.int .i64 aA)),(2,(.int .i64 fA)),(3,(.lst .int eA)),(8,(.ptr 8 0))],[(8,(.box 0 [.nils,.nils]))]⟩
noncomputable def fr3 (dA:Int) (aA:Int) (bA:List Spot):St U El:=⟨[(0,(.int .i64 dA)),(1,(.int .i64 aA)),(8,(.ptr 8 0)),(11,(.ptr 11 0))],[(8,(.box 0 [.nils,.nils])),(11,(.box 0 [(.ful 500001100),.nils])),(500001100,(.rows .spot bA))]⟩
noncomputable def fr4 (dA:Int) (aA:Int) (fA:Int) (rA:List Int) (sA:Int) (qA:Int) (bA:List Spot):St U El:=⟨[(0,(.int .i64 dA)),(1,(.int .i64 aA)),(2,(.int .i64 fA)),(8,(.ptr 8 0)),(11,(.ptr 11 0)),(69,(.lst .int rA)),(70,(.int .i64 sA)),(71,(.int .i64 qA))],[(8,(.box 0 [.nils,.nils])),(11,(.box 0 [(.ful 500001100),.nils])),(500001100,(.rows .spot bA))]⟩
noncomputable def fr5 (bA:List Spot) (cA:List Face):St U El:=⟨[(8,(.ptr 8 0)),(11,(.ptr 11 0))],[(8,(.box 0 [.nils,.nils])),(11,(.box 0 [(.ful 500001100),(.ful 500001101)])),(500001100,(.rows .spot bA)),(500001101,(.rows .face cA))]⟩
noncomputable def fr6 (aA:Int) (nA:Int) (mA:Int) (bA:List Spot) (cA:List Face):St U El:=⟨[(1,(.int .i64 aA)),(8,(.ptr 8 0)),(11,(.ptr 11 0)),(96,(.int .i64 nA)),(97,(.int .i64 mA))],[(8,(.box 0 [.nils,.nils])),(11,(.box 0 [(.ful 500001100),(.ful 500001101)])),(500001100,(.rows .spot bA)),(500001101,(.rows .face cA))]⟩
noncomputable def fr7 (aA:Int) (nA:Int) (mA:Int) (bA:List Spot) (cA:List Face):St U El:=⟨[(1,(.int .i64 aA)),(8,(.ptr 8 0)),(11,(.ptr 11 0)),(96,(.int .i64 nA)),(97,(.int .i64 mA))],[(8,(.box 0 [.nils,.nils])),(11,(.box 0 [(.ful 500001100),(.ful 500001101)])),(500001100,(.rows .spot bA)),(500001101,(.rows .face cA))]⟩
noncomputable def fr8 (aA:Int) (pA:Int) (nA:Int) (mA:Int) (oA:Int) (lA:Int) (bA:List Spot) (cA:List Face):St U El:=⟨[(1,(.int .i64 aA)),(8,(.ptr 8 0)),(11,(.ptr 11 0)),(14,(.int .i64 pA)),(96,(.int .i64 nA)),(97,(.int .i64 mA)),(100,(.int .i64 oA)),(101,(.int .i64 lA))],[(8,(.box 0 [.nils,.nils])),(11,(.box 0 [(.ful 500001100),(.ful 500001101)])),(500001100,(.rows .spot bA)),(500001101,(.rows .face cA))]⟩
noncomputable def sh0 (r:Int) (c:Int) (st:Int) (lv:List Int) (k1:Y1):R :=
  condB (ilt r (1:Int)) (some ((.tup [(.agg [(.lst .spot ([]:List Spot)),(.lst .face ([]:List Face))]),(.int .i64 (2:Int))]),[])) (condB (ilt c (1:Int)) (some ((.tup [(.agg [(.lst .spot ([]:List Spot)),(.lst .face ([]:List Face))]),(.int .i64 (2:Int))]),[])) (condB (ilt st (1:Int)) (some ((.tup [(.agg [(.lst .spot ([]:List Spot)),(.lst .face ([]:List Face))]),(.int .i64 (2:Int))]),[])) (chk (st != 0) (condB (ilt (IntKind.wrap .i64 (Int.tdiv (16777216:Int) st)) r) (some ((.tup [(.agg [(.lst .spot ([]:List Spot)),(.lst .face ([]:List Face))]),(.int .i64 (2:Int))]),[])) (chk (st != 0) (condB (ilt (IntKind.wrap .i64 (Int.tdiv (16777216:Int) st)) c) (some ((.tup [(.agg [(.lst .spot ([]:List Spot)),(.lst .face ([]:List Face))]),(.int .i64 (2:Int))]),[])) (k1 r c st lv)))))))
noncomputable def sh1 (dA:Int) (aA:Int) (fA:Int) (eA:List Int) (k2:Y2):R :=
  condB (ilt (2000:Int) (IntKind.wrap .i64 ((IntKind.wrap .i64 (dA+(1:Int))) * (IntKind.wrap .i64 (aA+(1:Int)))))) (some ((.tup [(.agg [(.lst .spot ([]:List Spot)),(.lst .face ([]:List Face))]),(.int .i64 (4:Int))]),[])) (condB (ilt (4000:Int) (IntKind.wrap .i64 ((IntKind.wrap .i64 ((2:Int) * dA)) * aA))) (some ((.tup [(.agg [(.lst .spot ([]:List Spot)),(.lst .face ([]:List Face))]),(.int .i64 (4:Int))]),[])) (condB ((Int.ofNat (List.length eA)) != (IntKind.wrap .i64 ((IntKind.wrap .i64 (dA+(1:Int))) * (IntKind.wrap .i64 (aA+(1:Int)))))) (some ((.tup [(.agg [(.lst .spot ([]:List Spot)),(.lst .face ([]:List Face))]),(.int .i64 (3:Int))]),[])) (chk (nle (List.length eA) 90000) (condB (List.any eA badZ) (some ((.tup [(.agg [(.lst .spot ([]:List Spot)),(.lst .face ([]:List Face))]),(.int .i64 (2:Int))]),[])) (k2 dA aA fA eA)))))
noncomputable def sh2 (dA:Int) (aA:Int) (fA:Int) (eA:List Int) (k4:Y4):R :=
  k4 dA aA fA eA (Int.ofNat (List.length eA)) (0:Int) ([]:List Spot)
noncomputable def sh3 (dA:Int) (aA:Int) (bA:List Spot) (k6:Y6):R :=
  k6 aA dA (0:Int) bA ([]:List Face)
noncomputable def sh4 (dA:Int) (aA:Int) (fA:Int) (rA:List Int) (sA:Int) (qA:Int) (bA:List Spot) (k3:Y3) (k4:Y4):R :=
  condB (ilt qA sA) (chk (inb qA (List.length rA)) (chk ((IntKind.wrap .i64 (aA+(1:Int))) != 0) (chk ((IntKind.wrap .i64 (aA+(1:Int))) != 0) (chk (nle ((List.length bA+List.length ([(⟨(IntKind.wrap .i64 ((Int.tmod qA (IntKind.wrap .i64 (aA+(1:Int)))) * fA)),(IntKind.wrap .i64 ((IntKind.wrap .i64 (Int.tdiv qA (IntKind.wrap .i64 (aA+(1:Int))))) * fA)),(List.getD rA (Int.toNat qA) d_int)⟩:Spot)]:List Spot)) * 24) 140737488355328&&nle (List.length bA+List.length ([(⟨(IntKind.wrap .i64 ((Int.tmod qA (IntKind.wrap .i64 (aA+(1:Int)))) * fA)),(IntKind.wrap .i64 ((IntKind.wrap .i64 (Int.tdiv qA (IntKind.wrap .i64 (aA+(1:Int))))) * fA)),(List.getD rA (Int.toNat qA) d_int)⟩:Spot)]:List Spot)) 9223372036854775807) (k4 dA aA fA rA sA (IntKind.wrap .i64 (qA+(1:Int))) (bA++([(⟨(IntKind.wrap .i64 ((Int.tmod qA (IntKind.wrap .i64 (aA+(1:Int)))) * fA)),(IntKind.wrap .i64 ((IntKind.wrap .i64 (Int.tdiv qA (IntKind.wrap .i64 (aA+(1:Int))))) * fA)),(List.getD rA (Int.toNat qA) d_int)⟩:Spot)]:List Spot))))))) (k3 dA aA bA)
noncomputable def sh5 (bA:List Spot) (cA:List Face):R :=
  some ((.tup [(.agg [(.lst .spot bA),(.lst .face cA)]),(.int .i64 (0:Int))]),[])
noncomputable def sh6 (aA:Int) (nA:Int) (mA:Int) (bA:List Spot) (cA:List Face) (k5:Y5) (k8:Y8):R :=
  condB (ilt mA nA) (k8 aA mA nA mA aA (0:Int) bA cA) (k5 bA cA)
noncomputable def sh7 (aA:Int) (nA:Int) (mA:Int) (bA:List Spot) (cA:List Face) (k6:Y6):R :=
  k6 aA nA (IntKind.wrap .i64 (mA+(1:Int))) bA cA
noncomputable def sh8 (aA:Int) (pA:Int) (nA:Int) (mA:Int) (oA:Int) (lA:Int) (bA:List Spot) (cA:List Face) (k7:Y7) (k8:Y8):R :=
  condB (ilt lA oA) (chk (nle ((List.length cA+List.length ([(⟨(IntKind.wrap .i64 ((IntKind.wrap .i64 (pA * (IntKind.wrap .i64 (aA+(1:Int)))))+lA)),(IntKind.wrap .i64 ((IntKind.wrap .i64 ((IntKind.wrap .i64 (pA * (IntKind.wrap .i64 (aA+(1:Int)))))+lA))+(1:Int))),(IntKind.wrap .i64 ((IntKind.wrap .i64 ((IntKind.wrap .i64 ((IntKind.wrap .i64 ((IntKind.wrap .i64 (pA * (IntKind.wrap .i64 (aA+(1:Int)))))+lA))+(1:Int)))+aA))+(1:Int))),(0:Int)⟩:Face),(⟨(IntKind.wrap .i64 ((IntKind.wrap .i64 (pA * (IntKind.wrap .i64 (aA+(1:Int)))))+lA)),(IntKind.wrap .i64 ((IntKind.wrap .i64 ((IntKind.wrap .i64 ((IntKind.wrap .i64 ((IntKind.wrap .i64 (pA * (IntKind.wrap .i64 (aA+(1:Int)))))+lA))+(1:Int)))+aA))+(1:Int))),(IntKind.wrap .i64 ((IntKind.wrap .i64 ((IntKind.wrap .i64 ((IntKind.wrap .i64 (pA * (IntKind.wrap .i64 (aA+(1:Int)))))+lA))+aA))+(1:Int))),(0:Int)⟩:Face)]:List Face)) * 32) 140737488355328&&nle (List.length cA+List.length ([(⟨(IntKind.wrap .i64 ((IntKind.wrap .i64 (pA * (IntKind.wrap .i64 (aA+(1:Int)))))+lA)),(IntKind.wrap .i64 ((IntKind.wrap .i64 ((IntKind.wrap .i64 (pA * (IntKind.wrap .i64 (aA+(1:Int)))))+lA))+(1:Int))),(IntKind.wrap .i64 ((IntKind.wrap .i64 ((IntKind.wrap .i64 ((IntKind.wrap .i64 ((IntKind.wrap .i64 (pA * (IntKind.wrap .i64 (aA+(1:Int)))))+lA))+(1:Int)))+aA))+(1:Int))),(0:Int)⟩:Face),(⟨(IntKind.wrap .i64 ((IntKind.wrap .i64 (pA * (IntKind.wrap .i64 (aA+(1:Int)))))+lA)),(IntKind.wrap .i64 ((IntKind.wrap .i64 ((IntKind.wrap .i64 ((IntKind.wrap .i64 ((IntKind.wrap .i64 (pA * (IntKind.wrap .i64 (aA+(1:Int)))))+lA))+(1:Int)))+aA))+(1:Int))),(IntKind.wrap .i64 ((IntKind.wrap .i64 ((IntKind.wrap .i64 ((IntKind.wrap .i64 (pA * (IntKind.wrap .i64 (aA+(1:Int)))))+lA))+aA))+(1:Int))),(0:Int)⟩:Face)]:List Face)) 9223372036854775807) (k8 aA pA nA mA oA (IntKind.wrap .i64 (lA+(1:Int))) bA (cA++([(⟨(IntKind.wrap .i64 ((IntKind.wrap .i64 (pA * (IntKind.wrap .i64 (aA+(1:Int)))))+lA)),(IntKind.wrap .i64 ((IntKind.wrap .i64 ((IntKind.wrap .i64 (pA * (IntKind.wrap .i64 (aA+(1:Int)))))+lA))+(1:Int))),(IntKind.wrap .i64 ((IntKind.wrap .i64 ((IntKind.wrap .i64 ((IntKind.wrap .i64 ((IntKind.wrap .i64 (pA * (IntKind.wrap .i64 (aA+(1:Int)))))+lA))+(1:Int)))+aA))+(1:Int))),(0:Int)⟩:Face),(⟨(IntKind.wrap .i64 ((IntKind.wrap .i64 (pA * (IntKind.wrap .i64 (aA+(1:Int)))))+lA)),(IntKind.wrap .i64 ((IntKind.wrap .i64 ((IntKind.wrap .i64 ((IntKind.wrap .i64 ((IntKind.wrap .i64 (pA * (IntKind.wrap .i64 (aA+(1:Int)))))+lA))+(1:Int)))+aA))+(1:Int))),(IntKind.wrap .i64 ((IntKind.wrap .i64 ((IntKind.wrap .i64 ((IntKind.wrap .i64 (pA * (IntKind.wrap .i64 (aA+(1:Int)))))+lA))+aA))+(1:Int))),(0:Int)⟩:Face)]:List Face)))) (k7 aA nA mA bA cA)
noncomputable def it4 (Kb3:Kont U El) (n:Nat):Kont U El:=iter nm4 (fun st' K'=>exec X (cdp [1,1,1,1,1,0,1,0,0] bd) (.seq none .d (.seq none .d (.seq none (.block (.seq none .d (.region [(17,500001100),(19,11)]))) .d))) st' K' (Eblk 1 (cutK nm3 Kb3) (fun _ _=>none)) RR) n
noncomputable def it6 (Kb5:Kont U El) (n:Nat):Kont U El:=iter nm6 (fun st' K'=>exec X (cdp [1,1,1,1,1,1,0,1,0,0] bd) (.seq none .d (.seq none .d (.seq (some nm7) (.block (.seq none .d (.seq none .d (.block (.loop nm8 .d))))) .d))) st' K' (Eblk 3 (cutK nm5 Kb5) (fun _ _=>none)) RR) n
noncomputable def it8 (Kb5 Kb7:Kont U El) (n:Nat):Kont U El:=iter nm8 (fun st' K'=>exec X (cdp [1,1,1,1,1,1,0,1,0,0,1,1,0,0,1,1,0,0] bd) .d st' K' (Eblk 5 (cutK nm7 Kb7) (Eblk 4 (cutK nm7 Kb7) (Eblk 3 (cutK nm5 Kb5) (fun _ _=>none)))) RR) n
noncomputable def ct1:Kont U El:=fun st=>exec X (cdp [1,1] bd) (.seq none .d (.seq (some nm2) .d (.seq none .d (.seq (some nm3) (.seq none .d (.block (.loop nm4 (.seq none .d (.seq none .d (.seq none (.block (.seq none .d (.region [(17,500001100),(19,11)]))) .d)))))) (.seq (some nm5) (.seq none .d (.block (.loop nm6 (.seq none .d (.seq none .d (.seq (some nm7) (.block (.seq none .d (.seq none .d (.block (.loop nm8 .d))))) .d)))))) .d))))) st RR (fun _ _=>none) RR
noncomputable def ct2:Kont U El:=fun st=>exec X (cdp [1,1,1,1] bd) (.seq none .d (.seq (some nm3) (.seq none .d (.block (.loop nm4 (.seq none .d (.seq none .d (.seq none (.block (.seq none .d (.region [(17,500001100),(19,11)]))) .d)))))) (.seq (some nm5) (.seq none .d (.block (.loop nm6 (.seq none .d (.seq none .d (.seq (some nm7) (.block (.seq none .d (.seq none .d (.block (.loop nm8 .d))))) .d)))))) .d))) st RR (fun _ _=>none) RR
noncomputable def ct3:Kont U El:=fun st=>exec X (cdp [1,1,1,1,1,1] bd) (.seq (some nm5) (.seq none .d (.block (.loop nm6 (.seq none .d (.seq none .d (.seq (some nm7) (.block (.seq none .d (.seq none .d (.block (.loop nm8 .d))))) .d)))))) .d) st RR (fun _ _=>none) RR
noncomputable def ct5:Kont U El:=fun st=>exec X (cdp [1,1,1,1,1,1,1] bd) .d st RR (fun _ _=>none) RR
noncomputable def ct7 (Kb5 Kb6:Kont U El):Kont U El:=fun st=>exec X (cdp [1,1,1,1,1,1,0,1,0,0,1,1,1] bd) .d st (cutK nm6 Kb6) (Eblk 3 (cutK nm5 Kb5) (fun _ _=>none)) RR
theorem P0 (r c st lv):exec X (cdp [] bd) (.seq none .d (.seq (some nm1) .d (.seq none .d (.seq (some nm2) .d (.seq none .d (.seq (some nm3) (.seq none .d (.block (.loop nm4 (.seq none .d (.seq none .d (.seq none (.block (.seq none .d (.region [(17,500001100),(19,11)]))) .d)))))) (.seq (some nm5) (.seq none .d (.block (.loop nm6 (.seq none .d (.seq none .d (.seq (some nm7) (.block (.seq none .d (.seq none .d (.block (.loop nm8 .d))))) .d)))))) .d))))))) (fr0 r c st lv) RR (fun _ _=>none) RR=sh0 r c st lv (fun y0 y1 y2 y3=>(hid ct1) (fr1 y0 y1 y2 y3)):=by kernel_rfl
theorem P1 (dA aA fA eA):ct1 (fr1 dA aA fA eA)=sh1 dA aA fA eA (fun y0 y1 y2 y3=>(hid ct2) (fr2 y0 y1 y2 y3)):=by kernel_rfl
theorem P2 (dA aA fA eA):ct2 (fr2 dA aA fA eA)=sh2 dA aA fA eA (fun y0 y1 y2 y3 y4 y5 y6=>(hid (it4 (hid ct3) 100000)) (fr4 y0 y1 y2 y3 y4 y5 y6)):=by kernel_rfl
theorem P3 (dA aA bA):ct3 (fr3 dA aA bA)=sh3 dA aA bA (fun y0 y1 y2 y3 y4=>(hid (it6 (hid ct5) 100000)) (fr6 y0 y1 y2 y3 y4)):=by kernel_rfl
theorem P4 (dA aA fA rA sA qA bA) (Kb3 Kb4:Kont U El):exec X (cdp [1,1,1,1,1,0,1,0,0] bd) (.seq none .d (.seq none .d (.seq none (.block (.seq none .d (.region [(17,500001100),(19,11)]))) .d))) (fr4 dA aA fA rA sA qA bA) (cutK nm4 Kb4) (Eblk 1 (cutK nm3 Kb3) (fun _ _=>none)) RR=sh4 dA aA fA rA sA qA bA (fun y0 y1 y2=>Kb3 (fr3 y0 y1 y2)) (fun y0 y1 y2 y3 y4 y5 y6=>Kb4 (fr4 y0 y1 y2 y3 y4 y5 y6)):=by kernel_rfl
theorem P5 (bA cA):ct5 (fr5 bA cA)=sh5 bA cA:=by kernel_rfl
theorem P6 (aA nA mA bA cA) (Kb5 Kb6:Kont U El):exec X (cdp [1,1,1,1,1,1,0,1,0,0] bd) (.seq none .d (.seq none .d (.seq (some nm7) (.block (.seq none .d (.seq none .d (.block (.loop nm8 .d))))) .d))) (fr6 aA nA mA bA cA) (cutK nm6 Kb6) (Eblk 3 (cutK nm5 Kb5) (fun _ _=>none)) RR=sh6 aA nA mA bA cA (fun y0 y1=>Kb5 (fr5 y0 y1)) (fun y0 y1 y2 y3 y4 y5 y6 y7=>(hid (it8 Kb5 (hid (ct7 Kb5 Kb6)) 100000)) (fr8 y0 y1 y2 y3 y4 y5 y6 y7)):=by kernel_rfl
theorem P7 (aA nA mA bA cA) (Kb5 Kb6:Kont U El):ct7 Kb5 Kb6 (fr7 aA nA mA bA cA)=sh7 aA nA mA bA cA (fun y0 y1 y2 y3 y4=>Kb6 (fr6 y0 y1 y2 y3 y4)):=by kernel_rfl
theorem P8 (aA pA nA mA oA lA bA cA) (Kb5 Kb7 Kb8:Kont U El):exec X (cdp [1,1,1,1,1,1,0,1,0,0,1,1,0,0,1,1,0,0] bd) .d (fr8 aA pA nA mA oA lA bA cA) (cutK nm8 Kb8) (Eblk 5 (cutK nm7 Kb7) (Eblk 4 (cutK nm7 Kb7) (Eblk 3 (cutK nm5 Kb5) (fun _ _=>none)))) RR=sh8 aA pA nA mA oA lA bA cA (fun y0 y1 y2 y3 y4=>Kb7 (fr7 y0 y1 y2 y3 y4)) (fun y0 y1 y2 y3 y4 y5 y6 y7=>Kb8 (fr8 y0 y1 y2 y3 y4 y5 y6 y7)):=by kernel_rfl
noncomputable def f5 (bA:List Spot) (cA:List Face):R:=sh5 bA cA
noncomputable def f7 (k6:Y6) (aA:Int) (nA:Int) (mA:Int) (bA:List Spot) (cA:List Face):R:=sh7 aA nA mA bA cA k6
noncomputable def f8 (k6:Y6):Nat→Y8
  | 0=>fun _ _ _ _ _ _ _ _=>none
  | n+1=>fun aA pA nA mA oA lA bA cA=>sh8 aA pA nA mA oA lA bA cA (f7 k6) (f8 k6 n)
noncomputable def f6:Nat→Y6
  | 0=>fun _ _ _ _ _=>none
  | n+1=>fun aA nA mA bA cA=>sh6 aA nA mA bA cA f5 (f8 (f6 n) 100000)
noncomputable def f3 (dA:Int) (aA:Int) (bA:List Spot):R:=sh3 dA aA bA (f6 100000)
noncomputable def f4:Nat→Y4
  | 0=>fun _ _ _ _ _ _ _=>none
  | n+1=>fun dA aA fA rA sA qA bA=>sh4 dA aA fA rA sA qA bA f3 (f4 n)
noncomputable def f2 (dA:Int) (aA:Int) (fA:Int) (eA:List Int):R:=sh2 dA aA fA eA (f4 100000)
noncomputable def f1 (dA:Int) (aA:Int) (fA:Int) (eA:List Int):R:=sh1 dA aA fA eA f2
noncomputable def f0 (r:Int) (c:Int) (st:Int) (lv:List Int):R:=sh0 r c st lv f1
theorem T5 (bA cA):(hid ct5) (fr5 bA cA)=f5 bA cA:=by
  refine (congrFun (hid_eq _) _).trans <| (P5 bA cA).trans ?_
  show _=sh5 bA cA
  rfl
theorem T7 (KL6:Kont U El) (k6:Y6) (h6:∀ aA nA mA bA cA,KL6 (fr6 aA nA mA bA cA)=k6 aA nA mA bA cA) (aA nA mA bA cA):(hid (ct7 (hid ct5) KL6)) (fr7 aA nA mA bA cA)=f7 k6 aA nA mA bA cA:=by
  refine (congrFun (hid_eq _) _).trans <| (P7 aA nA mA bA cA (hid ct5) KL6).trans ?_
  show _=sh7 aA nA mA bA cA k6
  simp only [h6]
theorem T8 (KL6:Kont U El) (k6:Y6) (h6:∀ aA nA mA bA cA,KL6 (fr6 aA nA mA bA cA)=k6 aA nA mA bA cA):∀ (n:Nat),∀ aA pA nA mA oA lA bA cA,it8 (hid ct5) (hid (ct7 (hid ct5) KL6)) n (fr8 aA pA nA mA oA lA bA cA)=f8 k6 n aA pA nA mA oA lA bA cA:=by
  intro n
  induction n with
  | zero=>intros; rfl
  | succ n ih =>
    intro aA pA nA mA oA lA bA cA
    refine (P8 aA pA nA mA oA lA bA cA (hid ct5) (hid (ct7 (hid ct5) KL6)) (it8 (hid ct5) (hid (ct7 (hid ct5) KL6)) n)).trans ?_
    show _=sh8 aA pA nA mA oA lA bA cA (f7 k6) (f8 k6 n)
    simp only [T7 KL6 k6 h6,ih]
theorem H8 (KL6:Kont U El) (k6:Y6) (h6:∀ aA nA mA bA cA,KL6 (fr6 aA nA mA bA cA)=k6 aA nA mA bA cA) (aA pA nA mA oA lA bA cA):hid (it8 (hid ct5) (hid (ct7 (hid ct5) KL6)) 100000) (fr8 aA pA nA mA oA lA bA cA)=f8 k6 100000 aA pA nA mA oA lA bA cA:=(congrFun (hid_eq _) _).trans (T8 KL6 k6 h6 100000 aA pA nA mA oA lA bA cA)
theorem T6:∀ (n:Nat),∀ aA nA mA bA cA,it6 (hid ct5) n (fr6 aA nA mA bA cA)=f6 n aA nA mA bA cA:=by
  intro n
  induction n with
  | zero=>intros; rfl
  | succ n ih =>
    intro aA nA mA bA cA
    refine (P6 aA nA mA bA cA (hid ct5) (it6 (hid ct5) n)).trans ?_
    show _=sh6 aA nA mA bA cA f5 (f8 (f6 n) 100000)
    simp only [T5,H8 (it6 (hid ct5) n) (f6 n) ih]
theorem H6 (aA nA mA bA cA):hid (it6 (hid ct5) 100000) (fr6 aA nA mA bA cA)=f6 100000 aA nA mA bA cA:=(congrFun (hid_eq _) _).trans (T6 100000 aA nA mA bA cA)
theorem T3 (dA aA bA):(hid ct3) (fr3 dA aA bA)=f3 dA aA bA:=by
  refine (congrFun (hid_eq _) _).trans <| (P3 dA aA bA).trans ?_
  show _=sh3 dA aA bA (f6 100000)
  simp only [H6]
theorem T4:∀ (n:Nat),∀ dA aA fA rA sA qA bA,it4 (hid ct3) n (fr4 dA aA fA rA sA qA bA)=f4 n dA aA fA rA sA qA bA:=by
  intro n
  induction n with
  | zero=>intros; rfl
  | succ n ih =>
    intro dA aA fA rA sA qA bA
    refine (P4 dA aA fA rA sA qA bA (hid ct3) (it4 (hid ct3) n)).trans ?_
    show _=sh4 dA aA fA rA sA qA bA f3 (f4 n)
    simp only [T3,ih]
theorem H4 (dA aA fA rA sA qA bA):hid (it4 (hid ct3) 100000) (fr4 dA aA fA rA sA qA bA)=f4 100000 dA aA fA rA sA qA bA:=(congrFun (hid_eq _) _).trans (T4 100000 dA aA fA rA sA qA bA)
theorem T2 (dA aA fA eA):(hid ct2) (fr2 dA aA fA eA)=f2 dA aA fA eA:=by
  refine (congrFun (hid_eq _) _).trans <| (P2 dA aA fA eA).trans ?_
  show _=sh2 dA aA fA eA (f4 100000)
  simp only [H4]
theorem T1 (dA aA fA eA):(hid ct1) (fr1 dA aA fA eA)=f1 dA aA fA eA:=by
  refine (congrFun (hid_eq _) _).trans <| (P1 dA aA fA eA).trans ?_
  show _=sh1 dA aA fA eA f2
  simp only [T2]
theorem T0 (r c st lv):exec X bd (.seq none .d (.seq (some nm1) .d (.seq none .d (.seq (some nm2) .d (.seq none .d (.seq (some nm3) (.seq none .d (.block (.loop nm4 (.seq none .d (.seq none .d (.seq none (.block (.seq none .d (.region [(17,500001100),(19,11)]))) .d)))))) (.seq (some nm5) (.seq none .d (.block (.loop nm6 (.seq none .d (.seq none .d (.seq (some nm7) (.block (.seq none .d (.seq none .d (.block (.loop nm8 .d))))) .d)))))) .d))))))) (fr0 r c st lv) RR (fun _ _=>none) RR=f0 r c st lv:=by
  refine (P0 r c st lv).trans ?_
  show _=sh0 r c st lv f1
  simp only [T1]
theorem run (r c st lv):runFnC X bd (.seq none .d (.seq (some nm1) .d (.seq none .d (.seq (some nm2) .d (.seq none .d (.seq (some nm3) (.seq none .d (.block (.loop nm4 (.seq none .d (.seq none .d (.seq none (.block (.seq none .d (.region [(17,500001100),(19,11)]))) .d)))))) (.seq (some nm5) (.seq none .d (.block (.loop nm6 (.seq none .d (.seq none .d (.seq (some nm7) (.block (.seq none .d (.seq none .d (.block (.loop nm8 .d))))) .d)))))) .d))))))) nmR [(8,27)] [136,9] [] [(.int .i64 r),(.int .i64 c),(.int .i64 st),(.lst .int lv)]=f0 r c st lv:=T0 r c st lv
theorem row (k6:Y6) (R C i:Nat) (hC:C≤1000) (hi:i≤1000) (ss:List Spot):∀ (n k:Nat) (fs:List Face),C < n+k→k≤C→fs.length+2 * (C - k)≤10000000 →
    f8 k6 n (C:Int) (i:Int) (R:Int) (i:Int) (C:Int) (k:Int) ss fs=f7 k6 (C:Int) (R:Int) (i:Int) ss (fs++rowG C i k (C - k)):=by
  intro n
  induction n with
  | zero=>intro k fs h1 h2; omega
  | succ n ih =>
    intro k fs h1 h2 h3
    show sh8 (C:Int) (i:Int) (R:Int) (i:Int) (C:Int) (k:Int) ss fs (f7 k6) (f8 k6 n)=_
    unfold sh8
    by_cases hk:k < C
    · have hA : i * (C + 1) + k ≤ 10000000 := by have := Nat.mul_le_mul hi (show C + 1 ≤ 1001 by omega); omega
      rw [at_eq (k:=k) hi hC (by omega)]
      rw [rowG_next hk]
      unfold faceG
      generalize i * (C+1)+k=A at hA ⊢
      rw [cor1 (A:=A) (by omega),corC (A:=A+1) (by omega) hC,corC (A:=A) (by omega) hC,cor1 (A:=A+1+C) (by omega),cor1 (A:=A+C) (by omega),wrapS k (by omega),iltT (by omega),condT,roomF _ _ _ (by omega),chkT,show A+1+C+1=A+C+2 by omega]
      refine (ih (k+1) _ (by omega) hk (by simp; omega)).trans ?_
      rw [List.append_assoc]
    · have : k = C := by omega
      subst this
      rw [iltF (by omega),Nat.sub_self]
      show f7 k6 _ _ _ ss fs=f7 k6 _ _ _ ss (fs++[])
      rw [List.append_nil]
theorem rows (R C:Nat) (hC:C≤1000) (hR:R≤1000) (ss:List Spot):∀ (n i:Nat) (fs:List Face),R < n+i→i≤R→fs.length≤2000 * i →
    f6 n (C:Int) (R:Int) (i:Int) ss fs=f5 ss (fs++gridG C i (R - i)):=by
  intro n
  induction n with
  | zero=>intro i fs h1 h2; omega
  | succ n ih =>
    intro i fs h1 h2 h3
    show sh6 (C:Int) (R:Int) (i:Int) ss fs f5 (f8 (f6 n) 100000)=_
    unfold sh6
    by_cases hk:i < R
    · rw [iltT (by omega), condT]
      refine (row (f6 n) R C i hC (by omega) ss 100000 0 fs (by omega) (by omega) (by omega)).trans ?_
      rw [Nat.sub_zero]
      show f6 n (C:Int) (R:Int) (IntKind.wrap .i64 ((i:Int)+1)) ss (fs++rowG C i 0 C)=_
      rw [wrapS i (by omega),ih (i+1) _ (by omega) hk (by rw [List.length_append,rowG_len]; omega),gridG_next hk,List.append_assoc]
    · have : i = R := by omega
      subst this
      rw [iltF (by omega),Nat.sub_self]
      show f5 ss fs=f5 ss (fs++[])
      rw [List.append_nil]
theorem levels (R C:Nat) (hC:C≤1000) (st:Int) (lv:List Int) (hl:lv.length≤2000):∀ (n t:Nat) (ss:List Spot),lv.length < n+t→t≤lv.length→ss.length≤t →
    f4 n (R:Int) (C:Int) st lv (Int.ofNat lv.length) (t:Int) ss=f3 (R:Int) (C:Int) (ss++(gridS C st lv).drop t):=by
  intro n
  induction n with
  | zero=>intro t ss h1 h2; omega
  | succ n ih =>
    intro t ss h1 h2 h3
    show sh4 (R:Int) (C:Int) st lv (Int.ofNat lv.length) (t:Int) ss f3 (f4 n)=_
    unfold sh4
    have e1:IntKind.wrap .i64 ((C:Int)+1)=((C+1:Nat):Int):=wrapN (by omega) (by omega)
    by_cases hk:t < lv.length
    · have hq : t / (C + 1) ≤ t := Nat.div_le_self _ _
      have hne:(((C+1:Nat):Int) != 0)=true:=by rw [bne_iff_ne]; omega
      rw [e1,tmodN,tdivN,wrapN (x:=((t / (C+1):Nat):Int)) rfl (by omega),iltT (by simp; omega),condT,inbT hk,hne,roomS _ _ (by omega),wrapS t (by omega),chkT,chkT,chkT,chkT,toNat_nat,drop_lt (show t < (gridS C st lv).length by rw [gridS_len]; exact hk),gridS_get hk]
      refine (ih (t+1) _ (by omega) hk (by simp; omega)).trans ?_
      rw [List.append_assoc]
      rfl
    · have : t = lv.length := by omega
      subst this
      rw [iltF (by simp),List.drop_eq_nil_of_le (by rw [gridS_len]; exact Nat.le_refl _),List.append_nil]
      rfl
theorem f0_eq (r c st:Int) (lv:List Int) (h:nle lv.length 90000=true):f0 r c st lv=outM (gridM r c st lv) (gridE r c st lv):=by
  have h9:=nleI h
  show sh0 r c st lv f1=_
  unfold sh0
  have bad:gridB r c st=true→outM (gridM r c st lv) (gridE r c st lv)=some ((.tup [(.agg [(.lst .spot ([]:List Spot)),(.lst .face ([]:List Face))]),(.int .i64 2)]),[]):=fun hb=>out_bad (by unfold gridE; rw [hb]; rfl) (by decide)
  by_cases h1:r < 1
  · rw [iltT h1,bad (gridB_T (.inl h1))]; rfl
  by_cases h2:c < 1
  · rw [iltF h1,iltT h2,bad (gridB_T (.inr (.inl h2)))]; rfl
  by_cases h3:st < 1
  · rw [iltF h1,iltF h2,iltT h3,bad (gridB_T (.inr (.inr (.inl h3))))]; rfl
  have hs0:(st != 0)=true:=by rw [bne_iff_ne]; omega
  have hq:Int.tdiv (16777216:Int) st=16777216 / st:=Int.tdiv_eq_ediv_of_nonneg (by omega)
  have hq1:0≤(16777216:Int) / st:=Int.ediv_nonneg (by omega) (by omega)
  have hq2:(16777216:Int) / st≤16777216:=Int.ediv_le_self _ (by omega)
  rw [iltF h1,iltF h2,iltF h3,hs0,hq,wrapI (by omega) (by omega),chkT,chkT]
  by_cases h4:16777216 < r * st
  · rw [iltT ((Int.ediv_lt_iff_lt_mul (by omega)).2 h4),bad (gridB_T (.inr (.inr (.inr (.inl h4)))))]; rfl
  by_cases h5:16777216 < c * st
  · rw [iltF (fun e=>h4 ((Int.ediv_lt_iff_lt_mul (by omega)).1 e)),iltT ((Int.ediv_lt_iff_lt_mul (by omega)).2 h5),bad (gridB_T (.inr (.inr (.inr (.inr h5)))))]; rfl
  rw [iltF (fun e=>h4 ((Int.ediv_lt_iff_lt_mul (by omega)).1 e)),iltF (fun e=>h5 ((Int.ediv_lt_iff_lt_mul (by omega)).1 e))]
  have hB:=gridB_F (r:=r) (c:=c) (st:=st) (by omega) (by omega) (by omega) (by omega) (by omega)
  obtain ⟨p1,p2⟩:=prod_ok (r:=r) (c:=c) (by omega) (by omega) (mul_le_of r st _ (by omega) (by omega) (by omega)).1 (mul_le_of c st _ (by omega) (by omega) (by omega)).1
  show sh1 r c st lv f2=_
  unfold sh1
  rw [p1,p2,nleT h9,chkT]
  by_cases h6:2000 < (r+1) * (c+1)
  · rw [iltT h6,out_bad (e:=4) (by unfold gridE; rw [hB,iltT h6]; rfl) (by decide)]; rfl
  by_cases h7:4000 < 2 * r * c
  · rw [iltF h6,iltT h7,out_bad (e:=4) (by unfold gridE; rw [hB,iltF h6,iltT h7]; rfl) (by decide)]; rfl
  rw [iltF h6,iltF h7]
  cases h8:(Int.ofNat lv.length != (r+1) * (c+1)) with
  | true=>rw [out_bad (e:=3) (by unfold gridE; rw [hB,iltF h6,iltF h7,h8]; rfl) (by decide)]; rfl
  | false =>
    cases h10:List.any lv badZ with
    | true=>rw [out_bad (e:=2) (by unfold gridE; rw [hB,iltF h6,iltF h7,h8,h10]; rfl) (by decide)]; rfl
    | false =>
      have hg:=gg_of (r:=r) (c:=c) (st:=st) (lv:=lv) (by omega) (by omega) (by omega) (by omega) (by omega) h6 h7 (by simpa using h8)
      have hE:gridE r c st lv=0:=by unfold gridE; rw [hB,iltF h6,iltF h7,h8,h10]; rfl
      have hM:gridM r c st lv=⟨gridS c.toNat st lv,gridG c.toNat 0 r.toNat⟩:=by unfold gridM; rw [hE]; rfl
      rw [hM,hE]
      have e1:=hg.er; have e2:=hg.ec; have hl:=hg.l; have hn:=hg.n
      obtain ⟨s1,s2⟩:=hg.small
      generalize r.toNat=R at e1 hl hn s1 ⊢
      generalize c.toNat=C at e2 hl hn s2 ⊢
      subst e1 e2
      show f4 100000 (R:Int) (C:Int) st lv (Int.ofNat lv.length) ((0:Nat):Int) []=_
      rw [levels R C s2 st lv (by omega) 100000 0 [] (by omega) (by omega) (by simp),List.drop_zero,List.nil_append]
      show f6 100000 (C:Int) (R:Int) ((0:Nat):Int) (gridS C st lv) []=_
      rw [rows R C s2 s1 (gridS C st lv) 100000 0 [] (by omega) (by omega) (by simp),Nat.sub_zero,List.nil_append]
      rfl
theorem ok:CtxOk Tryd.prog X:=ctxOk tab (spC gr1C.spOk spN) dpN
theorem okM:MOk Tryd.prog X:=fun g sp h=>by cases h
theorem spec (r:Int) (c:Int) (st:Int) (lv:List Int) (h:(nle (List.length lv) 90000)=true):CallSpec Tryd.prog E 6 [(.int .i64 r),(.int .i64 c),(.int .i64 st),(.lst .int lv)] (.tup [(.agg [(.lst .spot ((gridM r c st lv).ms)),(.lst .face ((gridM r c st lv).mf))]),(.int .i64 (gridE r c st lv))]) [] :=
  runFnC_sound ok okM Tryd.call6 Tryd.func6 (by kernel_rfl) (by kernel_rfl) (by kernel_rfl) (by show 4≤136; decide) (by decide) (by rfl) ((run r c st lv).trans (f0_eq r c st lv h))
noncomputable def sp:Sp U El:=fun args k=>match args with
  | [.int .i64 r,.int .i64 c,.int .i64 st,.lst .int lv]=>chk (nle (List.length lv) 90000) (k (.tup [(.agg [(.lst .spot ((gridM r c st lv).ms)),(.lst .face ((gridM r c st lv).mf))]),(.int .i64 (gridE r c st lv))]) [])
  | _=>none
theorem spOk:SpOk Tryd.prog E 6 sp where
  det:=fun vs=>by
    unfold sp
    split
    · exact det_c _ _ _
    · exact ⟨none,fun _=>rfl⟩
  ok:=fun vs k r h=>by
    unfold sp at h
    split at h
    · obtain ⟨h1, h2⟩ := chk_some h
      exact ⟨_,_,spec _ _ _ _ h1,h2⟩
    · cases h
end grid
end Go.Proofs.YtnofdcckddfooaaDoor
