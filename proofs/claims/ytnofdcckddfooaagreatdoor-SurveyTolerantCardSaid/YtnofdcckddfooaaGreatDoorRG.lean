/- A greater tolerance has more flat spots: the law SurveyTolerant's own run. -/
import Derived.Test.YtnofdcckddfooaaGreatDoorRE
import Derived.Test.YtnofdcckddfooaaGreatDoorRF
import Derived.Test.YtnofdcckddfooaaGreatDoorGW
namespace Go.Proofs.YtnofdcckddfooaaGreatDoor
set_option linter.unusedSectionVars false
set_option linter.unusedSimpArgs false
set_option linter.unusedVariables false
set_option maxRecDepth 100000
noncomputable def eqInt (x y:Int):Bool:=x == y
theorem any_eqInt {l:List Int} {x:Int}:l.any (eqInt x)=true↔x∈l:=by
  rw [List.any_eq_true]
  constructor
  · rintro ⟨y, hy, e⟩
    have:x=y:=by simpa [eqInt] using e
    rw [this]; exact hy
  · intro h; exact ⟨x,h,by simp [eqInt]⟩
namespace idxI
noncomputable def bd:Code:=(Tryz.f46.body).getD .skip
noncomputable def X:Ctx U El:=⟨E,tds,zeros,eqs,specOf [],100000,19,dspecOf [],fun _=>none⟩
noncomputable def nmR:Norm U:=⟨[],[4],[],[],[],[],[]⟩
noncomputable def RR:Kont U El:=fun st=>normK nmR st (retFin [4] [])
noncomputable def nm1:Norm U:=⟨[],[],[],[],[],[],[]⟩
noncomputable def nm2:Norm U:=⟨[],[0,1,7,8],[],[],[],[],[]⟩
abbrev Y1:=R
abbrev Y2:=(List Int)→Int→Int→Int→R
noncomputable def fr0 (l:List Int) (x:Int):St U El:=⟨[(0,(.lst .int l)),(1,(.int .i64 x))],[]⟩
noncomputable def fr1:St U El:=⟨[],[]⟩
noncomputable def fr2 (s0:List Int) (v1:Int) (x7:Int) (x8:Int):St U El:=⟨[(0,(.lst .int s0)),(1,(.int .i64 v1)),(7,(.int .i64 x7)),(8,(.int .i64 x8))],[]⟩
noncomputable def sh0 (l:List Int) (x:Int) (k2:Y2):R :=
  k2 l x (Int.ofNat (List.length l)) (0:Int)
noncomputable def sh1:R :=
  some ((.int .i64 (-1:Int)),[])
noncomputable def sh2 (s0:List Int) (v1:Int) (x7:Int) (x8:Int) (k1:Y1) (k2:Y2):R :=
  condB (ilt x8 x7) (chk (inb x8 (List.length s0)) (condB (v1 == (List.getD s0 (Int.toNat x8) d_int)) (some ((.int .i64 x8),[])) (k2 s0 v1 x7 (IntKind.wrap .i64 (x8+(1:Int)))))) (k1)
noncomputable def it2 (Kb1:Kont U El) (n:Nat):Kont U El:=iter nm2 (fun st' K'=>exec X (cdp [1,0,1,0,0] bd) .d st' K' (Eblk 0 (cutK nm1 Kb1) (fun _ _=>none)) RR) n
noncomputable def ct1:Kont U El:=fun st=>exec X (cdp [1,1] bd) .d st RR (fun _ _=>none) RR
theorem P0 (l x):exec X (cdp [] bd) (.seq none .d (.seq (some nm1) (.seq none .d (.block (.loop nm2 .d))) .d)) (fr0 l x) RR (fun _ _=>none) RR=sh0 l x (fun y0 y1 y2 y3=>(hid (it2 (hid ct1) 100000)) (fr2 y0 y1 y2 y3)):=by kernel_rfl
theorem P1:ct1 (fr1)=sh1:=by kernel_rfl
theorem P2 (s0 v1 x7 x8) (Kb1 Kb2:Kont U El):exec X (cdp [1,0,1,0,0] bd) .d (fr2 s0 v1 x7 x8) (cutK nm2 Kb2) (Eblk 0 (cutK nm1 Kb1) (fun _ _=>none)) RR=sh2 s0 v1 x7 x8 (Kb1 (fr1)) (fun y0 y1 y2 y3=>Kb2 (fr2 y0 y1 y2 y3)):=by kernel_rfl
noncomputable def f1:R:=sh1
noncomputable def f2:Nat→Y2
  | 0=>fun _ _ _ _=>none
  | n+1=>fun s0 v1 x7 x8=>sh2 s0 v1 x7 x8 f1 (f2 n)
noncomputable def f0 (l:List Int) (x:Int):R:=sh0 l x (f2 100000)
theorem T1:(hid ct1) (fr1)=f1:=by
  refine (congrFun (hid_eq _) _).trans <| (P1).trans ?_
  show _=sh1
  rfl
theorem T2:∀ (n:Nat),∀ s0 v1 x7 x8,it2 (hid ct1) n (fr2 s0 v1 x7 x8)=f2 n s0 v1 x7 x8:=by
  intro n
  induction n with
  | zero=>intros; rfl
  | succ n ih =>
    intro s0 v1 x7 x8
    refine (P2 s0 v1 x7 x8 (hid ct1) (it2 (hid ct1) n)).trans ?_
    show _=sh2 s0 v1 x7 x8 f1 (f2 n)
    simp only [T1,ih]
theorem H2 (s0 v1 x7 x8):hid (it2 (hid ct1) 100000) (fr2 s0 v1 x7 x8)=f2 100000 s0 v1 x7 x8:=(congrFun (hid_eq _) _).trans (T2 100000 s0 v1 x7 x8)
theorem T0 (l x):exec X bd (.seq none .d (.seq (some nm1) (.seq none .d (.block (.loop nm2 .d))) .d)) (fr0 l x) RR (fun _ _=>none) RR=f0 l x:=by
  refine (P0 l x).trans ?_
  show _=sh0 l x (f2 100000)
  simp only [H2]
theorem run (l x):runFn X bd (.seq none .d (.seq (some nm1) (.seq none .d (.block (.loop nm2 .d))) .d)) nmR [4] [] [(.lst .int l),(.int .i64 x)]=f0 l x:=T0 l x
theorem f0_eq (l:List Int) (x:Int) (h:(nle (List.length l) 90000)=true):f0 l x=outI (findZ (eqInt x) 0 l):=by
  have hl:=nleI h
  refine (grun_eq l (by omega) (fun n_ (_:Unit) i_=>f2 n_ l x (Int.ofNat l.length) i_) _ (fun _=>outI (-1)) (fun n_ u_ i_ hi_ => ?_) (fun n_ u_ => ?_) 100000 0 () (by omega) (by omega)).trans (grun_find (eqInt x) outI l 0)
  · show sh2 l x (Int.ofNat l.length) i_ f1 (f2 n_) = _
    unfold sh2
    rw [iltT (by simp; omega),inbT hi_,toNat_nat,getD_lt hi_]
    rfl
  · show sh2 l x (Int.ofNat l.length) (l.length : Int) f1 (f2 n_) = _
    unfold sh2
    rw [iltF (by simp)]
    rfl
theorem ok:CtxOk Tryz.prog X:=ctxOk tab spN dpN
theorem okM:MOk Tryz.prog X:=fun g sp h=>by cases h
theorem spec (l:List Int) (x:Int) (h:(nle (List.length l) 90000)=true):CallSpec Tryz.prog E 46 [(.lst .int l),(.int .i64 x)] (.int .i64 (findZ (eqInt x) 0 l)) [] :=
  runFn_sound ok okM Tryz.call46 Tryz.func46 (by kernel_rfl) (by kernel_rfl) (by kernel_rfl) (by show 2≤19; decide) (by decide) (by rfl) ((run l x).trans (f0_eq l x h))
noncomputable def sp:Sp U El:=fun args k=>match args with
  | [.lst .int l,.int .i64 x]=>chk (nle (List.length l) 90000) (k (.int .i64 (findZ (eqInt x) 0 l)) [])
  | _=>none
theorem spOk:SpOk Tryz.prog E 46 sp where
  det:=fun vs=>by
    unfold sp
    split
    · exact det_c _ _ _
    · exact ⟨none,fun _=>rfl⟩
  ok:=fun vs k r h=>by
    unfold sp at h
    split at h
    · obtain ⟨h1, h2⟩ := chk_some h
      exact ⟨_,_,spec _ _ h1,h2⟩
    · cases h
end idxI
namespace hasI
noncomputable def bd:Code:=(Tryz.f20.body).getD .skip
noncomputable def X:Ctx U El:=⟨E,tds,zeros,eqs,specOf [(46,idxI.sp)],100000,9,dspecOf [],fun _=>none⟩
noncomputable def nmR:Norm U:=⟨[],[4],[],[],[],[],[]⟩
noncomputable def RR:Kont U El:=fun st=>normK nmR st (retFin [4] [])
noncomputable def fr0 (l:List Int) (x:Int):St U El:=⟨[(0,(.lst .int l)),(1,(.int .i64 x))],[]⟩
noncomputable def sh0 (l:List Int) (x:Int):R :=
  chk (nle (List.length l) 90000) (some ((.bool (ile (0:Int) (findZ (eqInt x) 0 l))),[]))
theorem P0 (l x):exec X (cdp [] bd) .d (fr0 l x) RR (fun _ _=>none) RR=sh0 l x:=by kernel_rfl
noncomputable def f0 (l:List Int) (x:Int):R:=sh0 l x
theorem T0 (l x):exec X bd .d (fr0 l x) RR (fun _ _=>none) RR=f0 l x:=by
  refine (P0 l x).trans ?_
  show _=sh0 l x
  rfl
theorem run (l x):runFn X bd .d nmR [4] [] [(.lst .int l),(.int .i64 x)]=f0 l x:=T0 l x
theorem f0_eq (l:List Int) (x:Int) (h:(nle (List.length l) 90000)=true):f0 l x=outB (List.any l (eqInt x)):=by
  show sh0 l x=_
  unfold sh0
  rw [h,← findZ_any (eqInt x) l 0]
  rfl
theorem ok:CtxOk Tryz.prog X:=ctxOk tab (spC idxI.spOk spN) dpN
theorem okM:MOk Tryz.prog X:=fun g sp h=>by cases h
theorem spec (l:List Int) (x:Int) (h:(nle (List.length l) 90000)=true):CallSpec Tryz.prog E 20 [(.lst .int l),(.int .i64 x)] (.bool (List.any l (eqInt x))) [] :=
  runFn_sound ok okM Tryz.call20 Tryz.func20 (by kernel_rfl) (by kernel_rfl) (by kernel_rfl) (by show 2≤9; decide) (by decide) (by rfl) ((run l x).trans (f0_eq l x h))
noncomputable def sp:Sp U El:=fun args k=>match args with
  | [.lst .int l,.int .i64 x]=>chk (nle (List.length l) 90000) (k (.bool (List.any l (eqInt x))) [])
  | _=>none
theorem spOk:SpOk Tryz.prog E 20 sp where
  det:=fun vs=>by
    unfold sp
    split
    · exact det_c _ _ _
    · exact ⟨none,fun _=>rfl⟩
  ok:=fun vs k r h=>by
    unfold sp at h
    split at h
    · obtain ⟨h1, h2⟩ := chk_some h
      exact ⟨_,_,spec _ _ h1,h2⟩
    · cases h
end hasI
noncomputable def lensOk (ls:List (List Int)):Bool:=nle ls.length 4000&&nle (List.flatten ls).length 4000
noncomputable def lenZ:List (List Int)→Int
  | []=>0
  | x :: l=>Int.ofNat x.length+lenZ l
theorem lenZ_flat:∀ l:List (List Int),lenZ l=((List.flatten l).length:Int):=by
  intro l
  induction l with
  | nil=>rfl
  | cons x l ih=>simp only [lenZ,ih,List.flatten_cons,List.length_append]; simp
namespace concatI
noncomputable def bd:Code:=(Tryz.f21.body).getD .skip
noncomputable def X:Ctx U El:=⟨E,tds,zeros,eqs,specOf [],100000,36,dspecOf [],mspecOf [(47,growSp)]⟩
noncomputable def nmR:Norm U:=⟨[(2,.int)],[2],[2],[],[],[],[]⟩
noncomputable def RR:Kont U El:=fun st=>normK nmR st (retFin [2] [2])
noncomputable def nm1:Norm U:=⟨[],[0,3],[],[],[],[],[]⟩
noncomputable def nm2:Norm U:=⟨[],[0,3,9,10,11],[],[],[],[],[]⟩
noncomputable def nm3:Norm U:=⟨[],[0,3,9,10,11],[],[],[],[],[]⟩
noncomputable def nm4:Norm U:=⟨[(6,.int)],[6],[6],[],[],[],[]⟩
noncomputable def nm5:Norm U:=⟨[(6,.int)],[6,25,26,27],[6],[],[],[],[]⟩
abbrev Y1:=(List (List Int))→Int→R
abbrev Y2:=(List (List Int))→Int→(List (List Int))→Int→Int→R
abbrev Y3:=(List (List Int))→Int→(List (List Int))→Int→Int→R
abbrev Y4:=(List Int)→R
abbrev Y5:=(List Int)→(List (List Int))→Int→Int→R
noncomputable def fr0 (ls:List (List Int)):St U El:=⟨[(0,(.lst .ints ls))],[]⟩
noncomputable def fr1 (eA:List (List Int)) (gA:Int):St U El:=⟨[(0,(.lst .ints eA)),(3,(.int .i64 gA))],[]⟩
noncomputable def fr2 (eA:List (List Int)) (gA:Int) (x9:List (List Int)) (sA:Int) (pA:Int):St U El:=⟨[(0,(.lst .ints eA)),(3,(.int .i64 gA)),(9,(.lst .ints x9)),(10,(.int .i64 sA)),(11,(.int .i64 pA))],[]⟩
noncomputable def fr3 (eA:List (List Int)) (gA:Int) (x9:List (List Int)) (sA:Int) (pA:Int):St U El:=⟨[(0,(.lst .ints eA)),(3,(.int .i64 gA)),(9,(.lst .ints x9)),(10,(.int .i64 sA)),(11,(.int .i64 pA))],[]⟩
noncomputable def fr4 (fA:List Int):St U El:=⟨[(6,(.ful 6))],[(6,(.rows .int fA))]⟩
noncomputable def fr5 (fA:List Int) (vA:List (List Int)) (yA:Int) (uA:Int):St U El:=⟨[(6,(.ful 6)),(25,(.lst .ints vA)),(26,(.int .i64 yA)),(27,(.int .i64 uA))],[(6,(.rows .int fA))]⟩
noncomputable def sh0 (ls:List (List Int)) (k2:Y2):R :=
  k2 ls (0:Int) ls (Int.ofNat (List.length ls)) (0:Int)
noncomputable def sh1 (eA:List (List Int)) (gA:Int) (k5:Y5):R :=
  chk (ile 0 gA&&ile gA 4000) (k5 ([]:List Int) eA (Int.ofNat (List.length eA)) (0:Int))
noncomputable def sh2 (eA:List (List Int)) (gA:Int) (x9:List (List Int)) (sA:Int) (pA:Int) (k1:Y1) (k3:Y3):R :=
  condB (ilt pA sA) (chk (inb pA (List.length x9)) (condB (ilt (IntKind.wrap .i64 (gA+(Int.ofNat (List.length (List.getD x9 (Int.toNat pA) d_ints))))) (0:Int)) (none) (k3 eA (IntKind.wrap .i64 (gA+(Int.ofNat (List.length (List.getD x9 (Int.toNat pA) d_ints))))) x9 sA pA))) (k1 eA gA)
noncomputable def sh3 (eA:List (List Int)) (gA:Int) (x9:List (List Int)) (sA:Int) (pA:Int) (k2:Y2):R :=
  k2 eA gA x9 sA (IntKind.wrap .i64 (pA+(1:Int)))
noncomputable def sh4 (fA:List Int):R :=
  some ((.ful 0),[(0,.rows .int fA)])
noncomputable def sh5 (fA:List Int) (vA:List (List Int)) (yA:Int) (uA:Int) (k4:Y4) (k5:Y5):R :=
  condB (ilt uA yA) (chk (inb uA (List.length vA)) (chk (nle ((List.length fA+List.length (List.getD vA (Int.toNat uA) d_ints)) * 8) 140737488355328&&nle (List.length fA+List.length (List.getD vA (Int.toNat uA) d_ints)) 9223372036854775807) (k5 (fA++(List.getD vA (Int.toNat uA) d_ints)) vA yA (IntKind.wrap .i64 (uA+(1:Int)))))) (k4 fA)
noncomputable def it2 (Kb1:Kont U El) (n:Nat):Kont U El:=iter nm2 (fun st' K'=>exec X (cdp [1,1,0,1,0,0] bd) (.seq none .d (.seq none .d (.seq (some nm3) .d .d))) st' K' (Eblk 0 (cutK nm1 Kb1) (fun _ _=>none)) RR) n
noncomputable def it5 (Kb4:Kont U El) (n:Nat):Kont U El:=iter nm5 (fun st' K'=>exec X (cdp [1,1,1,1,0,1,0,0] bd) .d st' K' (Eblk 2 (cutK nm4 Kb4) (fun _ _=>none)) RR) n
noncomputable def ct1:Kont U El:=fun st=>exec X (cdp [1,1,1] bd) (.seq none .d (.seq (some nm4) (.seq none .d (.block (.loop nm5 .d))) .d)) st RR (fun _ _=>none) RR
noncomputable def ct3 (Kb1 Kb2:Kont U El):Kont U El:=fun st=>exec X (cdp [1,1,0,1,0,0,1,1,1] bd) .d st (cutK nm2 Kb2) (Eblk 0 (cutK nm1 Kb1) (fun _ _=>none)) RR
noncomputable def ct4:Kont U El:=fun st=>exec X (cdp [1,1,1,1,1] bd) .d st RR (fun _ _=>none) RR
theorem P0 (ls):exec X (cdp [] bd) (.seq none .d (.seq none .d (.seq (some nm1) (.seq none .d (.block (.loop nm2 (.seq none .d (.seq none .d (.seq (some nm3) .d .d)))))) (.seq none .d (.seq (some nm4) (.seq none .d (.block (.loop nm5 .d))) .d))))) (fr0 ls) RR (fun _ _=>none) RR=sh0 ls (fun y0 y1 y2 y3 y4=>(hid (it2 (hid ct1) 100000)) (fr2 y0 y1 y2 y3 y4)):=by kernel_rfl
theorem P1 (eA gA):ct1 (fr1 eA gA)=sh1 eA gA (fun y0 y1 y2 y3=>(hid (it5 (hid ct4) 100000)) (fr5 y0 y1 y2 y3)):=by kernel_rfl
theorem P2 (eA gA x9 sA pA) (Kb1 Kb2:Kont U El):exec X (cdp [1,1,0,1,0,0] bd) (.seq none .d (.seq none .d (.seq (some nm3) .d .d))) (fr2 eA gA x9 sA pA) (cutK nm2 Kb2) (Eblk 0 (cutK nm1 Kb1) (fun _ _=>none)) RR=sh2 eA gA x9 sA pA (fun y0 y1=>Kb1 (fr1 y0 y1)) (fun y0 y1 y2 y3 y4=>(hid (ct3 Kb1 Kb2)) (fr3 y0 y1 y2 y3 y4)):=by kernel_rfl
theorem P3 (eA gA x9 sA pA) (Kb1 Kb2:Kont U El):ct3 Kb1 Kb2 (fr3 eA gA x9 sA pA)=sh3 eA gA x9 sA pA (fun y0 y1 y2 y3 y4=>Kb2 (fr2 y0 y1 y2 y3 y4)):=by kernel_rfl
theorem P4 (fA):ct4 (fr4 fA)=sh4 fA:=by kernel_rfl
theorem P5 (fA vA yA uA) (Kb4 Kb5:Kont U El):exec X (cdp [1,1,1,1,0,1,0,0] bd) .d (fr5 fA vA yA uA) (cutK nm5 Kb5) (Eblk 2 (cutK nm4 Kb4) (fun _ _=>none)) RR=sh5 fA vA yA uA (fun y0=>Kb4 (fr4 y0)) (fun y0 y1 y2 y3=>Kb5 (fr5 y0 y1 y2 y3)):=by kernel_rfl
noncomputable def f4 (fA:List Int):R:=sh4 fA
noncomputable def f5:Nat→Y5
  | 0=>fun _ _ _ _=>none
  | n+1=>fun fA vA yA uA=>sh5 fA vA yA uA f4 (f5 n)
noncomputable def f1 (eA:List (List Int)) (gA:Int):R:=sh1 eA gA (f5 100000)
noncomputable def f3 (k2:Y2) (eA:List (List Int)) (gA:Int) (x9:List (List Int)) (sA:Int) (pA:Int):R:=sh3 eA gA x9 sA pA k2
noncomputable def f2:Nat→Y2
  | 0=>fun _ _ _ _ _=>none
  | n+1=>fun eA gA x9 sA pA=>sh2 eA gA x9 sA pA f1 (f3 (f2 n))
noncomputable def f0 (ls:List (List Int)):R:=sh0 ls (f2 100000)
theorem T4 (fA):(hid ct4) (fr4 fA)=f4 fA:=by
  refine (congrFun (hid_eq _) _).trans <| (P4 fA).trans ?_
  show _=sh4 fA
  rfl
theorem T5:∀ (n:Nat),∀ fA vA yA uA,it5 (hid ct4) n (fr5 fA vA yA uA)=f5 n fA vA yA uA:=by
  intro n
  induction n with
  | zero=>intros; rfl
  | succ n ih =>
    intro fA vA yA uA
    refine (P5 fA vA yA uA (hid ct4) (it5 (hid ct4) n)).trans ?_
    show _=sh5 fA vA yA uA f4 (f5 n)
    simp only [T4,ih]
theorem H5 (fA vA yA uA):hid (it5 (hid ct4) 100000) (fr5 fA vA yA uA)=f5 100000 fA vA yA uA:=(congrFun (hid_eq _) _).trans (T5 100000 fA vA yA uA)
theorem T1 (eA gA):(hid ct1) (fr1 eA gA)=f1 eA gA:=by
  refine (congrFun (hid_eq _) _).trans <| (P1 eA gA).trans ?_
  show _=sh1 eA gA (f5 100000)
  simp only [H5]
theorem T3 (KL2:Kont U El) (k2:Y2) (h2:∀ eA gA x9 sA pA,KL2 (fr2 eA gA x9 sA pA)=k2 eA gA x9 sA pA) (eA gA x9 sA pA):(hid (ct3 (hid ct1) KL2)) (fr3 eA gA x9 sA pA)=f3 k2 eA gA x9 sA pA:=by
  refine (congrFun (hid_eq _) _).trans <| (P3 eA gA x9 sA pA (hid ct1) KL2).trans ?_
  show _=sh3 eA gA x9 sA pA k2
  simp only [h2]
theorem T2:∀ (n:Nat),∀ eA gA x9 sA pA,it2 (hid ct1) n (fr2 eA gA x9 sA pA)=f2 n eA gA x9 sA pA:=by
  intro n
  induction n with
  | zero=>intros; rfl
  | succ n ih =>
    intro eA gA x9 sA pA
    refine (P2 eA gA x9 sA pA (hid ct1) (it2 (hid ct1) n)).trans ?_
    show _=sh2 eA gA x9 sA pA f1 (f3 (f2 n))
    simp only [T1,T3 (it2 (hid ct1) n) (f2 n) ih]
theorem H2 (eA gA x9 sA pA):hid (it2 (hid ct1) 100000) (fr2 eA gA x9 sA pA)=f2 100000 eA gA x9 sA pA:=(congrFun (hid_eq _) _).trans (T2 100000 eA gA x9 sA pA)
theorem T0 (ls):exec X bd (.seq none .d (.seq none .d (.seq (some nm1) (.seq none .d (.block (.loop nm2 (.seq none .d (.seq none .d (.seq (some nm3) .d .d)))))) (.seq none .d (.seq (some nm4) (.seq none .d (.block (.loop nm5 .d))) .d))))) (fr0 ls) RR (fun _ _=>none) RR=f0 ls:=by
  refine (P0 ls).trans ?_
  show _=sh0 ls (f2 100000)
  simp only [H2]
theorem run (ls):runFn X bd (.seq none .d (.seq none .d (.seq (some nm1) (.seq none .d (.block (.loop nm2 (.seq none .d (.seq none .d (.seq (some nm3) .d .d)))))) (.seq none .d (.seq (some nm4) (.seq none .d (.block (.loop nm5 .d))) .d))))) nmR [2] [2] [(.lst .ints ls)]=f0 ls:=T0 ls
noncomputable def outC (z:List Int):R:=some (.ful 0,[(0,.rows .int z)])
theorem loop2 (ls:List (List Int)) (hl:ls.length≤4000):∀ (n i:Nat) (s:Int),ls.length < n+i→i≤ls.length→0≤s→s+lenZ (ls.drop i)≤4000 →
    f2 n ls s ls (Int.ofNat ls.length) (i:Int)=f1 ls (s+lenZ (ls.drop i)):=by
  intro n
  induction n with
  | zero=>intro i s h1 h2; omega
  | succ n ih =>
    intro i s h1 h2 h3 h4
    show sh2 ls s ls (Int.ofNat ls.length) i f1 (f3 (f2 n))=_
    unfold sh2
    by_cases hi:i < ls.length
    · rw [drop_lt hi] at h4
      have hz:0≤lenZ (ls.drop (i+1)):=by rw [lenZ_flat]; omega
      simp only [lenZ,Int.ofNat_eq_natCast] at h4
      rw [iltT (by simp; omega),inbT hi,toNat_nat,getD_lt hi,drop_lt hi,wrapI (x:=s+Int.ofNat ls[i].length) (by simp; omega) (by simp; omega),iltF (show ¬ s+Int.ofNat ls[i].length < 0 by simp; omega)]
      show f2 n ls (s+Int.ofNat ls[i].length) ls (Int.ofNat ls.length) (IntKind.wrap .i64 ((i:Int)+1))=_
      rw [wrapS i (by omega),ih (i+1) _ (by omega) hi (by simp; omega) (by simp only [Int.ofNat_eq_natCast]; omega)]
      simp only [lenZ]
      rw [Int.add_assoc]
    · have : i = ls.length := by omega
      subst this
      rw [iltF (by simp),List.drop_length]
      simp only [lenZ,Int.add_zero]
      rfl
theorem loop5 (ls:List (List Int)) (hl:ls.length≤4000):∀ (n i:Nat) (acc:List Int),ls.length < n+i→i≤ls.length→acc.length+(List.flatten (ls.drop i)).length≤4000 →
    f5 n acc ls (Int.ofNat ls.length) (i:Int)=outC (acc++List.flatten (ls.drop i)):=by
  intro n
  induction n with
  | zero=>intro i s h1 h2; omega
  | succ n ih =>
    intro i acc h1 h2 h3
    show sh5 acc ls (Int.ofNat ls.length) i f4 (f5 n)=_
    unfold sh5
    by_cases hi:i < ls.length
    · rw [drop_lt hi, List.flatten_cons, List.length_append] at h3
      rw [iltT (by simp; omega),inbT hi,toNat_nat,getD_lt hi,drop_lt hi,nleT (show (acc.length+ls[i].length) * 8≤140737488355328 by omega),nleT (show acc.length+ls[i].length≤9223372036854775807 by omega),wrapS i (by omega)]
      show f5 n (acc++ls[i]) ls (Int.ofNat ls.length) ((i+1:Nat):Int)=_
      rw [ih (i+1) _ (by omega) hi (by simp only [List.length_append]; omega),List.flatten_cons,List.append_assoc]
    · have : i = ls.length := by omega
      subst this
      rw [iltF (by simp),List.drop_length]
      show outC acc=_
      rw [List.flatten_nil,List.append_nil]
theorem f0_eq (ls:List (List Int)) (h:lensOk ls=true):f0 ls=outC (List.flatten ls):=by
  simp only [lensOk,Bool.and_eq_true,nle,decide_eq_true_eq] at h
  obtain ⟨h1,h2⟩:=h
  show f2 100000 ls 0 ls (Int.ofNat ls.length) ((0:Nat):Int)=_
  have hz:lenZ ls=((List.flatten ls).length:Int):=lenZ_flat ls
  rw [loop2 ls h1 100000 0 0 (by omega) (by omega) (by omega) (by show (0:Int)+lenZ ls≤4000; omega)]
  show sh1 ls (0+lenZ ls) (f5 100000)=_
  unfold sh1
  rw [ileT (show 0≤0+lenZ ls by omega),ileT (show 0+lenZ ls≤4000 by omega)]
  exact loop5 ls h1 100000 0 [] (by omega) (by omega) (by show 0+(List.flatten ls).length≤4000; omega)
theorem ok:CtxOk Tryz.prog X:=ctxOk tab spN dpN
theorem okM:MOk Tryz.prog X:=mspecOf_ok _ (mpC (growOk rfl ok) mpN)
theorem spec (ls:List (List Int)) (h:(lensOk ls)=true):CallSpec Tryz.prog E 21 [(.lst .ints ls)] (.ful 0) [(0,.rows .int (List.flatten ls))] :=
  runFn_sound ok okM Tryz.call21 Tryz.func21 (by kernel_rfl) (by kernel_rfl) (by kernel_rfl) (by show 1≤36; decide) (by decide) (by rfl) ((run ls).trans (f0_eq ls h))
noncomputable def sp:Sp U El:=fun args k=>match args with
  | [.lst .ints ls]=>chk (lensOk ls) (k (.ful 0) [(0,.rows .int (List.flatten ls))])
  | _=>none
theorem spOk:SpOk Tryz.prog E 21 sp where
  det:=fun vs=>by
    unfold sp
    split
    · exact det_c _ _ _
    · exact ⟨none,fun _=>rfl⟩
  ok:=fun vs k r h=>by
    unfold sp at h
    split at h
    · obtain ⟨h1, h2⟩ := chk_some h
      exact ⟨_,_,spec _ h1,h2⟩
    · cases h
end concatI
namespace rcopy
noncomputable def bd:Code:=(Tryz.f22.body).getD .skip
noncomputable def X:Ctx U El:=⟨E,tds,zeros,eqs,specOf [],100000,12,dspecOf [],fun _=>none⟩
noncomputable def nmR:Norm U:=⟨[],[12],[6,10],[],[],[],[]⟩
noncomputable def RR:Kont U El:=fun st=>loadRes X 12 [(2,25)] 12 st fun st=>normK nmR st (retM [12])
noncomputable def fr0 (m:Mesh):St U El:=⟨[(0,(.agg [(.lst .spot m.ms),(.lst .face m.mf)]))],[]⟩
noncomputable def sh0 (m:Mesh):R :=
  chk (nle ((List.length ([]:List Spot)+List.length m.ms) * 24) 140737488355328&&nle (List.length ([]:List Spot)+List.length m.ms) 9223372036854775807) (chk (nle ((List.length ([]:List Face)+List.length m.mf) * 32) 140737488355328&&nle (List.length ([]:List Face)+List.length m.mf) 9223372036854775807) (some ((.agg [(.ful 6),(.ful 10)]),[(6,(.rows .spot (([]:List Spot)++m.ms))),(10,(.rows .face (([]:List Face)++m.mf)))])))
theorem P0 (m):exec X (cdp [] bd) (.seq none .d (.seq none (.region [(3,3),(7,7),(9,2)]) .d)) (fr0 m) RR (fun _ _=>none) RR=sh0 m:=by kernel_rfl
noncomputable def f0 (m:Mesh):R:=sh0 m
theorem T0 (m):exec X bd (.seq none .d (.seq none (.region [(3,3),(7,7),(9,2)]) .d)) (fr0 m) RR (fun _ _=>none) RR=f0 m:=by
  refine (P0 m).trans ?_
  show _=sh0 m
  rfl
theorem run (m):runMC X bd (.seq none .d (.seq none (.region [(3,3),(7,7),(9,2)]) .d)) nmR [(2,25)] [12] [] [(.agg [(.lst .spot m.ms),(.lst .face m.mf)])]=f0 m:=T0 m
theorem f0_eq (m:Mesh) (h:sizeOk m=true):f0 m=some (.agg [.ful 6,.ful 10],[(6,.rows .spot m.ms),(10,.rows .face m.mf)]):=by
  simp only [sizeOk,Bool.and_eq_true] at h
  have h1:=nleI h.1; have h2:=nleI h.2
  show sh0 m=_
  unfold sh0
  rw [nleT (show (List.length ([]:List Spot)+List.length m.ms) * 24≤140737488355328 by simp; omega),nleT (show List.length ([]:List Spot)+List.length m.ms≤9223372036854775807 by simp; omega),nleT (show (List.length ([]:List Face)+List.length m.mf) * 32≤140737488355328 by simp; omega),nleT (show List.length ([]:List Face)+List.length m.mf≤9223372036854775807 by simp; omega)]
  rfl
theorem ok:CtxOk Tryz.prog X:=ctxOk tab spN dpN
theorem okM:MOk Tryz.prog X:=fun g sp h=>by cases h
theorem spec (m:Mesh) (h:(sizeOk m)=true):MCall Tryz.prog E 22 [(.agg [(.lst .spot m.ms),(.lst .face m.mf)])] [] (.agg [(.ful 6),(.ful 10)]) [(6,(.rows .spot (Mesh.ms m))),(10,(.rows .face (Mesh.mf m)))] :=
  runMC_sound ok okM Tryz.func22 (by kernel_rfl) (by kernel_rfl) (by kernel_rfl) (by show 1≤12; decide) ((run m).trans (f0_eq m h))
noncomputable def sp:MSp U El:=fun args hs k=>match args,hs with
  | [.agg [.lst .spot m_ms,.lst .face m_mf]],[]=>chk true (chk (sizeOk (⟨m_ms,m_mf⟩:Mesh)) (k (.agg [(.ful 6),(.ful 10)]) [(6,(.rows .spot (Mesh.ms (⟨m_ms,m_mf⟩:Mesh)))),(10,(.rows .face (Mesh.mf (⟨m_ms,m_mf⟩:Mesh))))]))
  | _,_=>none
theorem spOk:MSpOk Tryz.prog E 22 sp:=⟨Tryz.call22,fun args hs k r h=>by
  unfold sp at h
  split at h
  · obtain ⟨_, hA⟩ := chk_some h
    obtain ⟨h1,hB⟩:=chk_some hA
    exact ⟨_,_,spec ⟨_,_⟩ h1,hB⟩
  · cases h⟩
theorem spDet:∀ args hs,∃ oo:Option (AV U El×Heap U El),∀ k,sp args hs k=oo.bind fun p=>k p.1 p.2:=fun args hs=>by
  unfold sp
  split
  · exact det_chkM (det_chkM ⟨some (_,_),fun _=>rfl⟩)
  · exact ⟨none,fun _=>rfl⟩
end rcopy
noncomputable def usesF (q:Int) (f:Face):Bool:=(f.fa == q)||((f.fb == q)||(f.fc == q))
namespace tol1
noncomputable def bd:Code:=(Tryz.f24.body).getD .skip
noncomputable def X:Ctx U El:=⟨E,tds,zeros,eqs,specOf [],100000,20,dspecOf [],fun _=>none⟩
noncomputable def nmR:Norm U:=⟨[],[3],[],[],[],[],[]⟩
noncomputable def RR:Kont U El:=fun st=>normK nmR st (retFin [3] [])
noncomputable def fr0 (x:Face) (q:Int):St U El:=⟨[(0,(.agg [(.int .i64 x.fa),(.int .i64 x.fb),(.int .i64 x.fc),(.int .i64 x.fk)])),(1,(.pcs [(.int .i64 q)] 0))],[]⟩
noncomputable def sh0 (x:Face) (q:Int):R :=
  condB (x.fa == q) (some ((.bool true),[])) (condB (x.fb == q) (some ((.bool true),[])) (some ((.bool (x.fc == q)),[])))
theorem P0 (x q):exec X (cdp [] bd) .d (fr0 x q) RR (fun _ _=>none) RR=sh0 x q:=by kernel_rfl
noncomputable def f0 (x:Face) (q:Int):R:=sh0 x q
theorem T0 (x q):exec X bd .d (fr0 x q) RR (fun _ _=>none) RR=f0 x q:=by
  refine (P0 x q).trans ?_
  show _=sh0 x q
  rfl
theorem run (x q):runFn X bd .d nmR [3] [] [(.agg [(.int .i64 x.fa),(.int .i64 x.fb),(.int .i64 x.fc),(.int .i64 x.fk)]),(.pcs [(.int .i64 q)] 0)]=f0 x q:=T0 x q
theorem f0_eq (x:Face) (q:Int):f0 x q=outB (usesF q x):=by
  show sh0 x q=_
  unfold sh0 usesF
  cases x.fa == q<;>cases x.fb == q<;>rfl
theorem ok:CtxOk Tryz.prog X:=ctxOk tab spN dpN
theorem okM:MOk Tryz.prog X:=fun g sp h=>by cases h
theorem spec (x:Face) (q:Int):CallSpec Tryz.prog E 24 [(.agg [(.int .i64 x.fa),(.int .i64 x.fb),(.int .i64 x.fc),(.int .i64 x.fk)]),(.pcs [(.int .i64 q)] 0)] (.bool ((usesF q) x)) [] :=
  runFn_sound ok okM Tryz.call24 Tryz.func24 (by kernel_rfl) (by kernel_rfl) (by kernel_rfl) (by show 2≤20; decide) (by decide) (by rfl) ((run x q).trans (f0_eq x q))
noncomputable def sp:Sp U El:=fun args k=>match args with
  | [.agg [.int .i64 x_fa,.int .i64 x_fb,.int .i64 x_fc,.int .i64 x_fk],.pcs [.int .i64 q] 0]=>k (.bool ((usesF q) (⟨x_fa,x_fb,x_fc,x_fk⟩:Face))) []
  | _=>none
theorem spOk:SpOk Tryz.prog E 24 sp where
  det:=fun vs=>by
    unfold sp
    split
    · exact ⟨some (_,_),fun _=>rfl⟩
    · exact ⟨none,fun _=>rfl⟩
  ok:=fun vs k r h=>by
    unfold sp at h
    split at h
    · exact ⟨_,_,spec ⟨_,_,_,_⟩ _,h⟩
    · cases h
end tol1
namespace tol1X
noncomputable def bd:Code:=(Tryz.f48.body).getD .skip
noncomputable def X:Ctx U El:=⟨E,tds,zeros,eqs,specOf [(24,tol1.sp)],100000,19,dspecOf [],fun _=>none⟩
noncomputable def nmR:Norm U:=⟨[],[4],[],[],[],[],[]⟩
noncomputable def RR:Kont U El:=fun st=>normK nmR st (retFin [4] [])
noncomputable def nm1:Norm U:=⟨[],[],[],[],[],[],[]⟩
noncomputable def nm2:Norm U:=⟨[],[0,1,7,8],[],[],[],[],[]⟩
abbrev Y1:=R
abbrev Y2:=(List Face)→Int→Int→Int→R
noncomputable def fr0 (l:List Face) (q:Int):St U El:=⟨[(0,(.lst .face l)),(1,(.fn 24 [] [(.pcs [(.int .i64 q)] 0)]))],[]⟩
noncomputable def fr1:St U El:=⟨[],[]⟩
noncomputable def fr2 (s0:List Face) (f1c_0:Int) (x7:Int) (x8:Int):St U El:=⟨[(0,(.lst .face s0)),(1,(.fn 24 [] [(.pcs [(.int .i64 f1c_0)] 0)])),(7,(.int .i64 x7)),(8,(.int .i64 x8))],[]⟩
noncomputable def sh0 (l:List Face) (q:Int) (k2:Y2):R :=
  k2 l q (Int.ofNat (List.length l)) (0:Int)
noncomputable def sh1:R :=
  some ((.int .i64 (-1:Int)),[])
noncomputable def sh2 (s0:List Face) (f1c_0:Int) (x7:Int) (x8:Int) (k1:Y1) (k2:Y2):R :=
  condB (ilt x8 x7) (chk (inb x8 (List.length s0)) (condB ((usesF f1c_0) (List.getD s0 (Int.toNat x8) d_face)) (some ((.int .i64 x8),[])) (k2 s0 f1c_0 x7 (IntKind.wrap .i64 (x8+(1:Int)))))) (k1)
noncomputable def it2 (Kb1:Kont U El) (n:Nat):Kont U El:=iter nm2 (fun st' K'=>exec X (cdp [1,0,1,0,0] bd) .d st' K' (Eblk 0 (cutK nm1 Kb1) (fun _ _=>none)) RR) n
noncomputable def ct1:Kont U El:=fun st=>exec X (cdp [1,1] bd) .d st RR (fun _ _=>none) RR
theorem P0 (l q):exec X (cdp [] bd) (.seq none .d (.seq (some nm1) (.seq none .d (.block (.loop nm2 .d))) .d)) (fr0 l q) RR (fun _ _=>none) RR=sh0 l q (fun y0 y1 y2 y3=>(hid (it2 (hid ct1) 100000)) (fr2 y0 y1 y2 y3)):=by kernel_rfl
theorem P1:ct1 (fr1)=sh1:=by kernel_rfl
theorem P2 (s0 f1c_0 x7 x8) (Kb1 Kb2:Kont U El):exec X (cdp [1,0,1,0,0] bd) .d (fr2 s0 f1c_0 x7 x8) (cutK nm2 Kb2) (Eblk 0 (cutK nm1 Kb1) (fun _ _=>none)) RR=sh2 s0 f1c_0 x7 x8 (Kb1 (fr1)) (fun y0 y1 y2 y3=>Kb2 (fr2 y0 y1 y2 y3)):=by kernel_rfl
noncomputable def f1:R:=sh1
noncomputable def f2:Nat→Y2
  | 0=>fun _ _ _ _=>none
  | n+1=>fun s0 f1c_0 x7 x8=>sh2 s0 f1c_0 x7 x8 f1 (f2 n)
noncomputable def f0 (l:List Face) (q:Int):R:=sh0 l q (f2 100000)
theorem T1:(hid ct1) (fr1)=f1:=by
  refine (congrFun (hid_eq _) _).trans <| (P1).trans ?_
  show _=sh1
  rfl
theorem T2:∀ (n:Nat),∀ s0 f1c_0 x7 x8,it2 (hid ct1) n (fr2 s0 f1c_0 x7 x8)=f2 n s0 f1c_0 x7 x8:=by
  intro n
  induction n with
  | zero=>intros; rfl
  | succ n ih =>
    intro s0 f1c_0 x7 x8
    refine (P2 s0 f1c_0 x7 x8 (hid ct1) (it2 (hid ct1) n)).trans ?_
    show _=sh2 s0 f1c_0 x7 x8 f1 (f2 n)
    simp only [T1,ih]
theorem H2 (s0 f1c_0 x7 x8):hid (it2 (hid ct1) 100000) (fr2 s0 f1c_0 x7 x8)=f2 100000 s0 f1c_0 x7 x8:=(congrFun (hid_eq _) _).trans (T2 100000 s0 f1c_0 x7 x8)
theorem T0 (l q):exec X bd (.seq none .d (.seq (some nm1) (.seq none .d (.block (.loop nm2 .d))) .d)) (fr0 l q) RR (fun _ _=>none) RR=f0 l q:=by
  refine (P0 l q).trans ?_
  show _=sh0 l q (f2 100000)
  simp only [H2]
theorem run (l q):runFn X bd (.seq none .d (.seq (some nm1) (.seq none .d (.block (.loop nm2 .d))) .d)) nmR [4] [] [(.lst .face l),(.fn 24 [] [(.pcs [(.int .i64 q)] 0)])]=f0 l q:=T0 l q
theorem f0_eq (l:List Face) (q:Int) (h:(nle (List.length l) 90000)=true):f0 l q=outI (findZ (usesF q) 0 l):=by
  have hl:=nleI h
  refine (grun_eq l (by omega) (fun n_ (_:Unit) i_=>f2 n_ l q (Int.ofNat l.length) i_) _ (fun _=>outI (-1)) (fun n_ u_ i_ hi_ => ?_) (fun n_ u_ => ?_) 100000 0 () (by omega) (by omega)).trans (grun_find (usesF q) outI l 0)
  · show sh2 l q (Int.ofNat l.length) i_ f1 (f2 n_) = _
    unfold sh2
    rw [iltT (by simp; omega),inbT hi_,toNat_nat,getD_lt hi_]
    rfl
  · show sh2 l q (Int.ofNat l.length) (l.length : Int) f1 (f2 n_) = _
    unfold sh2
    rw [iltF (by simp)]
    rfl
theorem ok:CtxOk Tryz.prog X:=ctxOk tab (spC tol1.spOk spN) dpN
theorem okM:MOk Tryz.prog X:=fun g sp h=>by cases h
theorem spec (l:List Face) (q:Int) (h:(nle (List.length l) 90000)=true):CallSpec Tryz.prog E 48 [(.lst .face l),(.fn 24 [] [(.pcs [(.int .i64 q)] 0)])] (.int .i64 (findZ (usesF q) 0 l)) [] :=
  runFn_sound ok okM Tryz.call48 Tryz.func48 (by kernel_rfl) (by kernel_rfl) (by kernel_rfl) (by show 2≤19; decide) (by decide) (by rfl) ((run l q).trans (f0_eq l q h))
noncomputable def sp:Sp U El:=fun args k=>match args with
  | [.lst .face l,.fn 24 [] [.pcs [.int .i64 q] 0]]=>chk (nle (List.length l) 90000) (k (.int .i64 (findZ (usesF q) 0 l)) [])
  | _=>none
theorem spOk:SpOk Tryz.prog E 48 sp where
  det:=fun vs=>by
    unfold sp
    split
    · exact det_c _ _ _
    · exact ⟨none,fun _=>rfl⟩
  ok:=fun vs k r h=>by
    unfold sp at h
    split at h
    · obtain ⟨h1, h2⟩ := chk_some h
      exact ⟨_,_,spec _ _ h1,h2⟩
    · cases h
end tol1X
namespace tol1C
noncomputable def bd:Code:=(Tryz.f23.body).getD .skip
noncomputable def X:Ctx U El:=⟨E,tds,zeros,eqs,specOf [(48,tol1X.sp)],100000,9,dspecOf [],fun _=>none⟩
noncomputable def nmR:Norm U:=⟨[],[4],[],[],[],[],[]⟩
noncomputable def RR:Kont U El:=fun st=>normK nmR st (retFin [4] [])
noncomputable def fr0 (l:List Face) (q:Int):St U El:=⟨[(0,(.lst .face l)),(1,(.fn 24 [] [(.pcs [(.int .i64 q)] 0)]))],[]⟩
noncomputable def sh0 (l:List Face) (q:Int):R :=
  chk (nle (List.length l) 90000) (some ((.bool (ile (0:Int) (findZ (usesF q) 0 l))),[]))
theorem P0 (l q):exec X (cdp [] bd) .d (fr0 l q) RR (fun _ _=>none) RR=sh0 l q:=by kernel_rfl
noncomputable def f0 (l:List Face) (q:Int):R:=sh0 l q
theorem T0 (l q):exec X bd .d (fr0 l q) RR (fun _ _=>none) RR=f0 l q:=by
  refine (P0 l q).trans ?_
  show _=sh0 l q
  rfl
theorem run (l q):runFn X bd .d nmR [4] [] [(.lst .face l),(.fn 24 [] [(.pcs [(.int .i64 q)] 0)])]=f0 l q:=T0 l q
theorem f0_eq (l:List Face) (q:Int) (h:(nle (List.length l) 90000)=true):f0 l q=outB (List.any l (usesF q)):=by
  show chk _ (outB _)=_
  rw [h,chkT,findZ_any]
theorem ok:CtxOk Tryz.prog X:=ctxOk tab (spC tol1X.spOk spN) dpN
theorem okM:MOk Tryz.prog X:=fun g sp h=>by cases h
theorem spec (l:List Face) (q:Int) (h:(nle (List.length l) 90000)=true):CallSpec Tryz.prog E 23 [(.lst .face l),(.fn 24 [] [(.pcs [(.int .i64 q)] 0)])] (.bool (List.any l (usesF q))) [] :=
  runFn_sound ok okM Tryz.call23 Tryz.func23 (by kernel_rfl) (by kernel_rfl) (by kernel_rfl) (by show 2≤9; decide) (by decide) (by rfl) ((run l q).trans (f0_eq l q h))
noncomputable def sp:Sp U El:=fun args k=>match args with
  | [.lst .face l,.fn 24 [] [.pcs [.int .i64 q] 0]]=>chk (nle (List.length l) 90000) (k (.bool (List.any l (usesF q))) [])
  | _=>none
theorem spOk:SpOk Tryz.prog E 23 sp where
  det:=fun vs=>by
    unfold sp
    split
    · exact det_c _ _ _
    · exact ⟨none,fun _=>rfl⟩
  ok:=fun vs k r h=>by
    unfold sp at h
    split at h
    · obtain ⟨h1, h2⟩ := chk_some h
      exact ⟨_,_,spec _ _ h1,h2⟩
    · cases h
end tol1C
theorem any_side (m:Mesh) (q:Pr→Bool):(allS m).any q=true↔∃ h,h < 3 * m.mf.length∧q (sdN m h)=true:=by
  unfold allS
  rw [List.any_flatMap,List.any_eq_true]
  constructor
  · rintro ⟨g, hg, hp⟩
    obtain ⟨i,hi,rfl⟩:=List.getElem_of_mem hg
    unfold sidesL at hp
    simp only [List.any_cons,List.any_nil,Bool.or_false,Bool.or_eq_true] at hp
    rcases hp with hp | hp | hp
    · exact ⟨3 * i+0,by omega,by rw [sdN_at m hi 0 (by omega)]; exact hp⟩
    · exact ⟨3 * i+1,by omega,by rw [sdN_at m hi 1 (by omega)]; exact hp⟩
    · exact ⟨3 * i+2,by omega,by rw [sdN_at m hi 2 (by omega)]; exact hp⟩
  · rintro ⟨h, hh, e⟩
    have hi:h / 3 < m.mf.length:=by omega
    refine ⟨m.mf[h / 3],List.getElem_mem hi,?_⟩
    unfold sdN at e
    rw [getD_lt hi] at e
    unfold sidesL
    simp only [List.any_cons,List.any_nil,Bool.or_false,Bool.or_eq_true]
    rcases mod3 h with k | k | k<;>rw [k] at e
    · exact .inl e
    · exact .inr (.inl e)
    · exact .inr (.inr e)
theorem itN_start {m:Mesh}:∀ (k h:Nat),(sdN m (itN m k h)).p0=(sdN m h).p0:=by
  intro k
  induction k with
  | zero=>intro h; rfl
  | succ k ih =>
    intro h
    show (sdN m (itN m k (phi m h))).p0=_
    rw [ih]
    unfold phi
    cases hc:opnN m h with
    | true=>rfl
    | false =>
      rw [cond_false,nxt_start,(opp_spec hc).2]
      rfl
theorem outside_iff {m:Mesh} (hv:validM m=true) (j:Int):(List.flatten (borderL m)).any (eqInt j)=(allS m).any fun p=>tch j p&&opn m p:=by
  obtain ⟨_,dn,hK⟩:=border_valid hv
  rw [Bool.eq_iff_iff,any_eqInt,any_side]
  have hst:∀ h,h < 3 * m.mf.length→opnN m h=true→(sdN m h).p0∈List.flatten (borderL m):=fun h hh ho=>(hK.inn h hh (hK.all h hh ho)).2
  constructor
  · intro h
    obtain ⟨k,hk,ho,e⟩:=hK.of j h
    refine ⟨k,hk,?_⟩
    unfold tch
    rw [show opn m (sdN m k)=true from ho,e,show (j == j)=true from beq_self_eq_true j]
    rfl
  · rintro ⟨h, hh, e⟩
    rw [Bool.and_eq_true] at e
    unfold tch at e
    simp only [Bool.or_eq_true,beq_iff_eq] at e
    rcases e with ⟨e1 | e1,e2⟩
    · rw [← e1]; exact hst h hh e2
    · obtain ⟨k, hk, ho⟩ := ends (valid_uniq hv) hh e2
      have:=hst _ (itN_lt k _ (nxt_lt hh)) ho
      rw [itN_start,nxt_start,e1] at this
      exact this
theorem mem_thin {m:Mesh} (hv:validM m=true) {t:Int} (ht:tolOk t=true) (v:Int):v∈thinL m t↔∃ j:Nat,j < m.ms.length∧v=(j:Int)∧flatB m t (j:Int)=true:=by
  unfold thinL
  rw [hv,ht]
  show v∈thinF m t 0 m.ms.length↔_
  unfold thinF
  rw [List.mem_filter,List.mem_map]
  constructor
  · rintro ⟨⟨j, hj, rfl⟩, h⟩
    rw [List.mem_range'] at hj
    obtain ⟨i,hi,rfl⟩:=hj
    exact ⟨_,by omega,rfl,h⟩
  · rintro ⟨j, hj, rfl, h⟩
    exact ⟨⟨j,by rw [List.mem_range']; exact ⟨j,hj,by omega⟩,rfl⟩,h⟩
theorem any_mono {α:Type} {p q:α→Bool} {l:List α} (h:∀ x,p x=true→q x=true) (hp:l.any p=true):l.any q=true:=by
  obtain ⟨x,hx,e⟩:=List.any_eq_true.1 hp
  exact List.any_eq_true.2 ⟨x,hx,h x e⟩
theorem flat_mono {m:Mesh} {t u:Int} (h:t≤u) (j:Int) (hf:flatB m t j=true):flatB m u j=true:=by
  unfold flatB at hf ⊢
  rw [Bool.and_eq_true] at hf ⊢
  refine ⟨hf.1,?_⟩
  cases hx:(allS m).any fun p=>tch j p&&badS m u p with
  | false=>rfl
  | true =>
    have:=any_mono (q:=fun p=>tch j p&&badS m t p) (fun p hp=>by
      rw [Bool.and_eq_true] at hp ⊢
      refine ⟨hp.1,?_⟩
      have h2:=hp.2
      unfold badS at h2 ⊢
      simp only [Bool.or_eq_true] at h2 ⊢
      rcases h2 with h2 | h2 | h2
      · exact .inl h2
      · have:=iltI h2; exact .inr (.inl (iltT (by omega)))
      · have:=iltI h2; exact .inr (.inr (iltT (by omega)))) hx
    rw [this] at hf
    exact absurd hf.2 (by simp)
theorem flat_inside {m:Mesh} (hv:validM m=true) {t j:Int} (hf:flatB m t j=true):(List.flatten (borderL m)).any (eqInt j)=false:=by
  rw [outside_iff hv]
  unfold flatB at hf
  rw [Bool.and_eq_true,Bool.not_eq_true'] at hf
  cases hx:(allS m).any fun p=>tch j p&&opn m p with
  | false=>rfl
  | true =>
    have:=any_mono (q:=fun p=>tch j p&&badS m t p) (fun p hp=>by
      rw [Bool.and_eq_true] at hp ⊢
      refine ⟨hp.1,?_⟩
      unfold badS
      rw [hp.2]
      rfl) hx
    rw [this] at hf
    exact absurd hf.2 (by simp)
noncomputable def flat7 (s:Spot):Spot:=⟨s.px,s.py,7⟩
noncomputable def level (m:Mesh):Mesh:=⟨m.ms.map flat7,m.mf⟩
theorem right7 {s:Spot} (h:rightB s=true):rightB (flat7 s)=true:=by
  unfold rightB at h ⊢
  rw [Bool.and_eq_true] at h
  show (validP ⟨s.px,s.py⟩&&(ile (-4194304) 7&&ile 7 4194304))=true
  rw [h.1]
  rfl
theorem seen7 (l:List Spot) (p:Pt):seen (l.map flat7) p=seen l p:=by
  unfold seen
  rw [List.any_map]
  rfl
theorem cleanP7:∀ (r l:List Spot),cleanP l r=true→cleanP (l.map flat7) (r.map flat7)=true:=by
  intro r
  induction r with
  | nil=>intro _ _; rfl
  | cons s r ih =>
    intro l h
    simp only [cleanP,Bool.and_eq_true,Bool.not_eq_true'] at h
    have:=ih (l++[s]) h.2.2
    rw [List.map_append] at this
    rw [List.map_cons]
    simp only [cleanP,Bool.and_eq_true,Bool.not_eq_true']
    exact ⟨right7 h.1,by rw [seen7]; exact h.2.1,this⟩
theorem tri7 (m:Mesh) (f:Face):triM (level m) f=triM m f:=by
  have hp:∀ i:Int,pointM (level m) i=pointM m i:=fun i=>by
    unfold pointM level
    by_cases hk:i.toNat < m.ms.length
    · rw [getD_lt hk, getD_lt (by simpa using hk)]
      simp [flat7]
    · have e1 : List.getD m.ms i.toNat d_spot = d_spot := by rw [List.getD, List.getElem?_eq_none (by omega)]; rfl
      have e2:List.getD (m.ms.map flat7) i.toNat d_spot=d_spot:=by rw [List.getD,List.getElem?_eq_none (by simpa using hk)]; rfl
      dsimp only
      rw [e1,e2]
  unfold triM
  rw [hp,hp,hp]
theorem good7 {m:Mesh} (hr:∀ s∈m.ms,rightB s=true) {f:Face} (h:goodC m f=true):goodC (level m) f=true:=by
  have key:∀ a b,gC m a b=true→gC (level m) a b=true:=fun a b h=>by
    simp only [gC,Bool.and_eq_true,Bool.not_eq_true'] at h
    have h1:=iltN h.1; have h2:=ileN h.2.1
    have hk:a.toNat < m.ms.length:=by simp at h2; omega
    unfold gC
    have hl:(level m).ms.length=m.ms.length:=by simp [level]
    rw [h.1,hl,h.2.1,h.2.2.1,getD_lt (by rw [hl]; exact hk)]
    have:(level m).ms[a.toNat]'(by rw [hl]; exact hk)=flat7 m.ms[a.toNat]:=by simp [level]
    rw [this,right7 (hr _ (List.getElem_mem hk))]
    rfl
  simp only [goodC,Bool.and_eq_true] at h ⊢
  exact ⟨key _ _ h.1,key _ _ h.2.1,key _ _ h.2.2.1,h.2.2.2⟩
theorem cleanR7 {m:Mesh} (hr:∀ s∈m.ms,rightB s=true):∀ (r l:List Face),cleanR m l r=true→cleanR (level m) l r=true:=by
  intro r
  induction r with
  | nil=>intro _ _; rfl
  | cons f r ih =>
    intro l h
    simp only [cleanR,Bool.and_eq_true,tri7] at h ⊢
    exact ⟨good7 hr h.1,h.2.1,h.2.2.1,h.2.2.2.1,ih _ h.2.2.2.2⟩
theorem level_valid {m:Mesh} (hv:validM m=true):validM (level m)=true:=by
  have hr:=valid_spots hv
  simp only [validM,Bool.and_eq_true] at hv ⊢
  have h2:=hv.2
  rw [← clean_D] at h2 ⊢
  refine ⟨?_,?_⟩
  · have h1 := hv.1
    unfold smallB at h1 ⊢
    have hl:(level m).ms.length=m.ms.length:=by simp [level]
    rw [hl]
    exact h1
  · simp only [cleanD, Bool.and_eq_true] at h2 ⊢
    exact ⟨cleanP7 _ _ h2.1,cleanR7 hr _ _ h2.2⟩
theorem any_congr' {α:Type} {p q:α→Bool}:∀ {l:List α},(∀ x∈l,p x=q x)→l.any p=l.any q:=by
  intro l
  induction l with
  | nil=>intro _; rfl
  | cons a l ih =>
    intro h
    rw [List.any_cons,List.any_cons,h a (List.mem_cons_self ..),ih fun x hx=>h x (List.mem_cons_of_mem _ hx)]
theorem side_in {m:Mesh} (hv:validM m=true):∀ p∈allS m,inb p.p0 m.ms.length=true∧inb p.p1 m.ms.length=true:=by
  intro p hp
  unfold allS at hp
  obtain ⟨f,hf,hp⟩:=List.mem_flatMap.1 hp
  have hin:=valid_in hv f hf
  simp only [faceIn,Bool.and_eq_true] at hin
  unfold sidesL at hp
  simp only [List.mem_cons,List.not_mem_nil,or_false] at hp
  rcases hp with rfl | rfl | rfl
  · exact ⟨hin.1,hin.2.1⟩
  · exact ⟨hin.2.1,hin.2.2⟩
  · exact ⟨hin.2.2,hin.1⟩
theorem z7 (m:Mesh) {a:Int} (h:inb a m.ms.length=true):zOf (level m) a=7:=by
  simp only [inb,ile,ilt,Bool.and_eq_true,decide_eq_true_eq] at h
  unfold zOf level
  rw [getD_lt (show a.toNat < (m.ms.map flat7).length by simp; omega)]
  simp [flat7]
theorem flat_level {m:Mesh} (hv:validM m=true) (j:Int):flatB (level m) 0 j=(m.mf.any (usesF j) && !((List.flatten (borderL m)).any (eqInt j))):=by
  rw [outside_iff hv]
  unfold flatB
  have h1:(allS (level m)).any (tch j)=m.mf.any (usesF j):=by
    show (allS m).any (tch j)=_
    unfold allS
    rw [List.any_flatMap]
    congr 1
    funext f
    unfold sidesL tch usesF
    simp only [List.any_cons,List.any_nil,Bool.or_false]
    cases f.fa == j<;>cases f.fb == j<;>cases f.fc == j<;>rfl
  have h2:((allS (level m)).any fun p=>tch j p&&badS (level m) 0 p)=(allS m).any fun p=>tch j p&&opn m p:=by
    refine any_congr' (l:=allS m) fun p hp => ?_
    obtain ⟨i0,i1⟩:=side_in hv p hp
    unfold badS
    rw [z7 m i0,z7 m i1]
    show (tch j p&&(opn m p||(ilt 0 (7 - 7)||ilt (7 - 7) (0 - 0))))=_
    rw [iltF (by decide),iltF (by decide)]
    simp
  rw [h1,h2]
namespace lawTol
noncomputable def bd:Code:=(Tryz.f5.body).getD .skip
noncomputable def X:Ctx U El:=⟨E,tds,zeros,eqs,specOf [(8,awake.sp),(9,large.sp),(14,rvalid.sp),(16,thin.sp),(19,border.sp),(20,hasI.sp),(21,concatI.sp),(23,tol1C.sp)],100000,142,dspecOf [],mspecOf [(22,(mcSp rcopy.sp))]⟩
noncomputable def nmR:Norm U:=⟨[],[6],[],[],[],[],[]⟩
noncomputable def RR:Kont U El:=fun st=>normK nmR st (retFin [6] [])
noncomputable def nm1:Norm U:=⟨[],[1,2,3],[3],[],[],[],[(3,0,.spot),(3,1,.face)]⟩
noncomputable def nm2:Norm U:=⟨[],[3,7,9,11],[3],[],[],[],[(3,0,.spot),(3,1,.face)]⟩
noncomputable def nm3:Norm U:=⟨[],[3,9,11],[3],[],[],[],[(3,0,.spot),(3,1,.face)]⟩
noncomputable def nm4:Norm U:=⟨[],[3,9,11,65,66,67],[3],[],[],[],[(3,0,.spot),(3,1,.face)]⟩
noncomputable def nm5:Norm U:=⟨[(15,.int)],[3,15],[15,3],[],[],[],[(3,0,.spot),(3,1,.face)]⟩
noncomputable def nm6:Norm U:=⟨[(15,.int)],[3,15,78,79,80],[15,3],[],[],[],[(3,0,.spot),(3,1,.face)]⟩
noncomputable def nm7:Norm U:=⟨[(15,.int)],[3,15,78,79,80],[15,3],[],[],[],[(3,0,.spot),(3,1,.face)]⟩
noncomputable def nm8:Norm U:=⟨[(15,.int)],[3,15,18],[15,3,18],[],[],[],[(3,0,.spot),(3,1,.face),(18,0,.spot),(18,1,.face)]⟩
noncomputable def nm9:Norm U:=⟨[(15,.int)],[3,15,18,103,104],[15,3,18,500001800,500001801],[],[(18,0,.spot,500001800),(18,1,.face,500001801)],[],[(3,0,.spot),(3,1,.face)]⟩
noncomputable def nm10:Norm U:=⟨[],[],[],[],[],[],[]⟩
noncomputable def nm11:Norm U:=⟨[(15,.int)],[3,15,20,122,123],[15,3],[],[],[],[(3,0,.spot),(3,1,.face)]⟩
noncomputable def nm12:Norm U:=⟨[(15,.int)],[3,15,20,122,123],[15,3],[],[],[],[(3,0,.spot),(3,1,.face)]⟩
abbrev Y1:=Int→Int→(List Spot)→(List Face)→R
abbrev Y2:=(List Int)→(List Int)→(List (List Int))→(List Spot)→(List Face)→R
abbrev Y3:=(List Int)→(List (List Int))→(List Spot)→(List Face)→R
abbrev Y4:=(List Int)→(List (List Int))→(List Int)→Int→Int→(List Spot)→(List Face)→R
abbrev Y5:=(List Int)→(List Spot)→(List Face)→R
abbrev Y6:=(List Int)→(List Int)→Int→Int→(List Spot)→(List Face)→R
abbrev Y7:=(List Int)→(List Int)→Int→Int→(List Spot)→(List Face)→R
abbrev Y8:=(List Int)→(List Spot)→(List Face)→(List Spot)→(List Face)→R
abbrev Y9:=(List Int)→Int→Int→(List Spot)→(List Face)→(List Spot)→(List Face)→R
abbrev Y10:=R
abbrev Y11:=(List Int)→(List Int)→Int→Int→(List Spot)→(List Face)→R
abbrev Y12:=(List Int)→(List Int)→Int→Int→(List Spot)→(List Face)→R
noncomputable def fr0 (m:Mesh) (ta:Int) (tb:Int):St U El:=⟨[(0,(.agg [(.lst .spot m.ms),(.lst .face m.mf)])),(1,(.int .u16 ta)),(2,(.int .u16 tb))],[]⟩
noncomputable def fr1 (a1:Int) (b2:Int) (bA:List Spot) (cA:List Face):St U El:=⟨[(1,(.int .u16 a1)),(2,(.int .u16 b2)),(3,(.ptr 3 0))],[(3,(.box 0 [(.lst .spot bA),(.lst .face cA)]))]⟩
noncomputable def fr2 (x7:List Int) (y9:List Int) (dA:List (List Int)) (bA:List Spot) (cA:List Face):St U El:=⟨[(3,(.ptr 3 0)),(7,(.lst .int x7)),(9,(.lst .int y9)),(11,(.lst .ints dA))],[(3,(.box 0 [(.lst .spot bA),(.lst .face cA)]))]⟩
noncomputable def fr3 (y9:List Int) (dA:List (List Int)) (bA:List Spot) (cA:List Face):St U El:=⟨[(3,(.ptr 3 0)),(9,(.lst .int y9)),(11,(.lst .ints dA))],[(3,(.box 0 [(.lst .spot bA),(.lst .face cA)]))]⟩
noncomputable def fr4 (y9:List Int) (dA:List (List Int)) (xA:List Int) (zA:Int) (wA:Int) (bA:List Spot) (cA:List Face):St U El:=⟨[(3,(.ptr 3 0)),(9,(.lst .int y9)),(11,(.lst .ints dA)),(65,(.lst .int xA)),(66,(.int .i64 zA)),(67,(.int .i64 wA))],[(3,(.box 0 [(.lst .spot bA),(.lst .face cA)]))]⟩
noncomputable def fr5 (aA:List Int) (bA:List Spot) (cA:List Face):St U El:=⟨[(3,(.ptr 3 0)),(15,(.ful 15))],[(15,(.rows .int aA)),(3,(.box 0 [(.lst .spot bA),(.lst .face cA)]))]⟩
noncomputable def fr6 (aA:List Int) (qA:List Int) (tA:Int) (nA:Int) (bA:List Spot) (cA:List Face):St U El:=⟨[(3,(.ptr 3 0)),(15,(.ful 15)),(78,(.lst .int qA)),(79,(.int .i64 tA)),(80,(.int .i64 nA))],[(15,(.rows .int aA)),(3,(.box 0 [(.lst .spot bA),(.lst .face cA)]))]⟩
noncomputable def fr7 (aA:List Int) (qA:List Int) (tA:Int) (nA:Int) (bA:List Spot) (cA:List Face):St U El:=⟨[(3,(.ptr 3 0)),(15,(.ful 15)),(78,(.lst .int qA)),(79,(.int .i64 tA)),(80,(.int .i64 nA))],[(15,(.rows .int aA)),(3,(.box 0 [(.lst .spot bA),(.lst .face cA)]))]⟩
noncomputable def fr8 (aA:List Int) (bA:List Spot) (cA:List Face) (iA:List Spot) (jA:List Face):St U El:=⟨[(3,(.ptr 3 0)),(15,(.ful 15)),(18,(.ptr 18 0))],[(15,(.rows .int aA)),(3,(.box 0 [(.lst .spot bA),(.lst .face cA)])),(18,(.box 0 [(.lst .spot iA),(.lst .face jA)]))]⟩
noncomputable def fr9 (aA:List Int) (oA:Int) (mA:Int) (bA:List Spot) (cA:List Face) (iA:List Spot) (jA:List Face):St U El:=⟨[(3,(.ptr 3 0)),(15,(.ful 15)),(18,(.ptr 18 0)),(103,(.int .i64 oA)),(104,(.int .i64 mA))],[(15,(.rows .int aA)),(3,(.box 0 [(.lst .spot bA),(.lst .face cA)])),(18,(.box 0 [(.ful 500001800),(.ful 500001801)])),(500001800,(.rows .spot iA)),(500001801,(.rows .face jA))]⟩
noncomputable def fr10:St U El:=⟨[],[]⟩
noncomputable def fr11 (aA:List Int) (rA:List Int) (lA:Int) (kA:Int) (bA:List Spot) (cA:List Face):St U El:=⟨[(3,(.ptr 3 0)),(15,(.ful 15)),(20,(.lst .int rA)),(122,(.int .i64 lA)),(123,(.int .i64 kA))],[(15,(.rows .int aA)),(3,(.box 0 [(.lst .spot bA),(.lst .face cA)]))]⟩
noncomputable def fr12 (aA:List Int) (rA:List Int) (lA:Int) (kA:Int) (bA:List Spot) (cA:List Face):St U El:=⟨[(3,(.ptr 3 0)),(15,(.ful 15)),(20,(.lst .int rA)),(122,(.int .i64 lA)),(123,(.int .i64 kA))],[(15,(.rows .int aA)),(3,(.box 0 [(.lst .spot bA),(.lst .face cA)]))]⟩
noncomputable def sh0 (m:Mesh) (ta:Int) (tb:Int) (k1:Y1):R :=
  condB (!(true)) (some ((.bool false),[])) (condB (largeB m) (some ((.bool true),[])) (chk (sizeOk m) (condB (!(validM m)) (some ((.bool true),[])) (k1 ta tb m.ms m.mf))))
noncomputable def sh1 (a1:Int) (b2:Int) (bA:List Spot) (cA:List Face) (k2:Y2):R :=
  chk (sizeOk (⟨bA,cA⟩:Mesh)) (chk (sizeOk (⟨bA,cA⟩:Mesh)) (chk (brdOk (⟨bA,cA⟩:Mesh)) (condB ((thinE (⟨bA,cA⟩:Mesh) (IntKind.wrap .i64 a1)) != (0:Int)) (some ((.bool false),[])) (condB ((thinE (⟨bA,cA⟩:Mesh) (IntKind.wrap .i64 ((IntKind.wrap .i64 a1)+(IntKind.wrap .i64 b2)))) != (0:Int)) (some ((.bool false),[])) (condB ((argE (⟨bA,cA⟩:Mesh)) != (0:Int)) (some ((.bool false),[])) (k2 (thinL (⟨bA,cA⟩:Mesh) (IntKind.wrap .i64 a1)) (thinL (⟨bA,cA⟩:Mesh) (IntKind.wrap .i64 ((IntKind.wrap .i64 a1)+(IntKind.wrap .i64 b2)))) (borderL (⟨bA,cA⟩:Mesh)) bA cA))))))
noncomputable def sh2 (x7:List Int) (y9:List Int) (dA:List (List Int)) (bA:List Spot) (cA:List Face) (k4:Y4):R :=
  k4 y9 dA x7 (Int.ofNat (List.length x7)) (0:Int) bA cA
noncomputable def sh3 (y9:List Int) (dA:List (List Int)) (bA:List Spot) (cA:List Face) (k6:Y6):R :=
  chk (lensOk dA) (k6 (List.flatten dA) y9 (Int.ofNat (List.length y9)) (0:Int) bA cA)
noncomputable def sh4 (y9:List Int) (dA:List (List Int)) (xA:List Int) (zA:Int) (wA:Int) (bA:List Spot) (cA:List Face) (k3:Y3) (k4:Y4):R :=
  condB (ilt wA zA) (chk (inb wA (List.length xA)) (chk (nle (List.length y9) 90000) (condB (!(List.any y9 (eqInt (List.getD xA (Int.toNat wA) d_int)))) (some ((.bool false),[])) (k4 y9 dA xA zA (IntKind.wrap .i64 (wA+(1:Int))) bA cA)))) (k3 y9 dA bA cA)
noncomputable def sh5 (aA:List Int) (bA:List Spot) (cA:List Face) (k9:Y9):R :=
  chk (sizeOk (⟨bA,cA⟩:Mesh)) (k9 aA (Int.ofNat (List.length (Mesh.ms (⟨bA,cA⟩:Mesh)))) (0:Int) bA cA (Mesh.ms (⟨bA,cA⟩:Mesh)) (Mesh.mf (⟨bA,cA⟩:Mesh)))
noncomputable def sh6 (aA:List Int) (qA:List Int) (tA:Int) (nA:Int) (bA:List Spot) (cA:List Face) (k5:Y5) (k7:Y7):R :=
  condB (ilt nA tA) (chk (inb nA (List.length qA)) (condB (ilt (List.getD qA (Int.toNat nA) d_int) (0:Int)) (some ((.bool false),[])) (condB (ile (Int.ofNat (List.length bA)) (List.getD qA (Int.toNat nA) d_int)) (some ((.bool false),[])) (chk (nle (List.length aA) 90000) (condB (List.any aA (eqInt (List.getD qA (Int.toNat nA) d_int))) (some ((.bool false),[])) (k7 aA qA tA nA bA cA)))))) (k5 aA bA cA)
noncomputable def sh7 (aA:List Int) (qA:List Int) (tA:Int) (nA:Int) (bA:List Spot) (cA:List Face) (k6:Y6):R :=
  k6 aA qA tA (IntKind.wrap .i64 (nA+(1:Int))) bA cA
noncomputable def sh8 (aA:List Int) (bA:List Spot) (cA:List Face) (iA:List Spot) (jA:List Face) (aB:Y11):R :=
  chk (sizeOk (⟨iA,jA⟩:Mesh)) (condB ((thinE (⟨iA,jA⟩:Mesh) (0:Int)) != (0:Int)) (some ((.bool false),[])) (aB aA (thinL (⟨iA,jA⟩:Mesh) (0:Int)) (Int.ofNat (List.length bA)) (0:Int) bA cA))
noncomputable def sh9 (aA:List Int) (oA:Int) (mA:Int) (bA:List Spot) (cA:List Face) (iA:List Spot) (jA:List Face) (k8:Y8) (k9:Y9):R :=
  condB (ilt mA oA) (chk (inb mA (List.length iA)) (chk (nlt (Int.toNat mA) (List.length iA)&&true) (k9 aA oA (IntKind.wrap .i64 (mA+(1:Int))) bA cA (List.set iA (Int.toNat mA) (⟨(List.getD iA (Int.toNat mA) d_spot).px,(List.getD iA (Int.toNat mA) d_spot).py,(7:Int)⟩:Spot)) jA))) (k8 aA bA cA iA jA)
noncomputable def sh10:R :=
  some ((.bool true),[])
noncomputable def sh11 (aA:List Int) (rA:List Int) (lA:Int) (kA:Int) (bA:List Spot) (cA:List Face) (k10:Y10) (k12:Y12):R :=
  condB (ilt kA lA) (chk (nle (List.length cA) 90000) (chk (nle (List.length rA) 90000) (condB (List.any cA (usesF kA)) (chk (nle (List.length aA) 90000) (condB (!((List.any rA (eqInt kA)) == (!(List.any aA (eqInt kA))))) (some ((.bool false),[])) (k12 aA rA lA kA bA cA))) (condB (!((List.any rA (eqInt kA)) == false)) (some ((.bool false),[])) (k12 aA rA lA kA bA cA))))) (k10)
noncomputable def sh12 (aA:List Int) (rA:List Int) (lA:Int) (kA:Int) (bA:List Spot) (cA:List Face) (aB:Y11):R :=
  aB aA rA lA (IntKind.wrap .i64 (kA+(1:Int))) bA cA
noncomputable def it4 (Kb3:Kont U El) (n:Nat):Kont U El:=iter nm4 (fun st' K'=>exec X (cdp [1,1,1,1,1,1,1,0,1,0,0] bd) .d st' K' (Eblk 0 (cutK nm3 Kb3) (fun _ _=>none)) RR) n
noncomputable def it6 (Kb5:Kont U El) (n:Nat):Kont U El:=iter nm6 (fun st' K'=>exec X (cdp [1,1,1,1,1,1,1,1,1,0,1,0,0] bd) (.seq none .d (.seq none .d (.seq (some nm7) .d .d))) st' K' (Eblk 2 (cutK nm5 Kb5) (fun _ _=>none)) RR) n
noncomputable def it9 (Kb8:Kont U El) (n:Nat):Kont U El:=iter nm9 (fun st' K'=>exec X (cdp [1,1,1,1,1,1,1,1,1,1,1,0,1,0,0] bd) .d st' K' (Eblk 4 (cutK nm8 Kb8) (fun _ _=>none)) RR) n
noncomputable def it11 (Kb10:Kont U El) (n:Nat):Kont U El:=iter nm11 (fun st' K'=>exec X (cdp [1,1,1,1,1,1,1,1,1,1,1,1,1,1,0,1,0,0] bd) (.seq none .d (.seq none .d (.seq (some nm12) .d .d))) st' K' (Eblk 6 (cutK nm10 Kb10) (fun _ _=>none)) RR) n
noncomputable def ct1:Kont U El:=fun st=>exec X (cdp [1,1,1] bd) (.seq none .d (.seq none .d (.seq none .d (.seq (some nm2) .d (.seq (some nm3) (.seq none .d (.block (.loop nm4 .d))) (.seq none .d (.seq (some nm5) (.seq none .d (.block (.loop nm6 (.seq none .d (.seq none .d (.seq (some nm7) .d .d)))))) (.seq none .d (.seq (some nm8) (.seq none .d (.block (.loop nm9 .d))) (.seq none .d (.seq none .d (.seq (some nm10) (.seq none .d (.block (.loop nm11 (.seq none .d (.seq none .d (.seq (some nm12) .d .d)))))) .d)))))))))))) st RR (fun _ _=>none) RR
noncomputable def ct2:Kont U El:=fun st=>exec X (cdp [1,1,1,1,1,1,1] bd) (.seq (some nm3) (.seq none .d (.block (.loop nm4 .d))) (.seq none .d (.seq (some nm5) (.seq none .d (.block (.loop nm6 (.seq none .d (.seq none .d (.seq (some nm7) .d .d)))))) (.seq none .d (.seq (some nm8) (.seq none .d (.block (.loop nm9 .d))) (.seq none .d (.seq none .d (.seq (some nm10) (.seq none .d (.block (.loop nm11 (.seq none .d (.seq none .d (.seq (some nm12) .d .d)))))) .d)))))))) st RR (fun _ _=>none) RR
noncomputable def ct3:Kont U El:=fun st=>exec X (cdp [1,1,1,1,1,1,1,1] bd) (.seq none .d (.seq (some nm5) (.seq none .d (.block (.loop nm6 (.seq none .d (.seq none .d (.seq (some nm7) .d .d)))))) (.seq none .d (.seq (some nm8) (.seq none .d (.block (.loop nm9 .d))) (.seq none .d (.seq none .d (.seq (some nm10) (.seq none .d (.block (.loop nm11 (.seq none .d (.seq none .d (.seq (some nm12) .d .d)))))) .d))))))) st RR (fun _ _=>none) RR
noncomputable def ct5:Kont U El:=fun st=>exec X (cdp [1,1,1,1,1,1,1,1,1,1] bd) (.seq none .d (.seq (some nm8) (.seq none .d (.block (.loop nm9 .d))) (.seq none .d (.seq none .d (.seq (some nm10) (.seq none .d (.block (.loop nm11 (.seq none .d (.seq none .d (.seq (some nm12) .d .d)))))) .d))))) st RR (fun _ _=>none) RR
noncomputable def ct7 (Kb5 Kb6:Kont U El):Kont U El:=fun st=>exec X (cdp [1,1,1,1,1,1,1,1,1,0,1,0,0,1,1,1] bd) .d st (cutK nm6 Kb6) (Eblk 2 (cutK nm5 Kb5) (fun _ _=>none)) RR
noncomputable def ct8:Kont U El:=fun st=>exec X (cdp [1,1,1,1,1,1,1,1,1,1,1,1] bd) (.seq none .d (.seq none .d (.seq (some nm10) (.seq none .d (.block (.loop nm11 (.seq none .d (.seq none .d (.seq (some nm12) .d .d)))))) .d))) st RR (fun _ _=>none) RR
noncomputable def ct10:Kont U El:=fun st=>exec X (cdp [1,1,1,1,1,1,1,1,1,1,1,1,1,1,1] bd) .d st RR (fun _ _=>none) RR
noncomputable def ct12 (Kb10 Kb11:Kont U El):Kont U El:=fun st=>exec X (cdp [1,1,1,1,1,1,1,1,1,1,1,1,1,1,0,1,0,0,1,1,1] bd) .d st (cutK nm11 Kb11) (Eblk 6 (cutK nm10 Kb10) (fun _ _=>none)) RR
theorem P0 (m ta tb):exec X (cdp [] bd) (.seq none .d (.seq none .d (.seq (some nm1) .d (.seq none .d (.seq none .d (.seq none .d (.seq (some nm2) .d (.seq (some nm3) (.seq none .d (.block (.loop nm4 .d))) (.seq none .d (.seq (some nm5) (.seq none .d (.block (.loop nm6 (.seq none .d (.seq none .d (.seq (some nm7) .d .d)))))) (.seq none .d (.seq (some nm8) (.seq none .d (.block (.loop nm9 .d))) (.seq none .d (.seq none .d (.seq (some nm10) (.seq none .d (.block (.loop nm11 (.seq none .d (.seq none .d (.seq (some nm12) .d .d)))))) .d))))))))))))))) (fr0 m ta tb) RR (fun _ _=>none) RR=sh0 m ta tb (fun y0 y1 y2 y3=>(hid ct1) (fr1 y0 y1 y2 y3)):=by kernel_rfl
theorem P1 (a1 b2 bA cA):ct1 (fr1 a1 b2 bA cA)=sh1 a1 b2 bA cA (fun y0 y1 y2 y3 y4=>(hid ct2) (fr2 y0 y1 y2 y3 y4)):=by kernel_rfl
theorem P2 (x7 y9 dA bA cA):ct2 (fr2 x7 y9 dA bA cA)=sh2 x7 y9 dA bA cA (fun y0 y1 y2 y3 y4 y5 y6=>(hid (it4 (hid ct3) 100000)) (fr4 y0 y1 y2 y3 y4 y5 y6)):=by kernel_rfl
theorem P3 (y9 dA bA cA):ct3 (fr3 y9 dA bA cA)=sh3 y9 dA bA cA (fun y0 y1 y2 y3 y4 y5=>(hid (it6 (hid ct5) 100000)) (fr6 y0 y1 y2 y3 y4 y5)):=by kernel_rfl
theorem P4 (y9 dA xA zA wA bA cA) (Kb3 Kb4:Kont U El):exec X (cdp [1,1,1,1,1,1,1,0,1,0,0] bd) .d (fr4 y9 dA xA zA wA bA cA) (cutK nm4 Kb4) (Eblk 0 (cutK nm3 Kb3) (fun _ _=>none)) RR=sh4 y9 dA xA zA wA bA cA (fun y0 y1 y2 y3=>Kb3 (fr3 y0 y1 y2 y3)) (fun y0 y1 y2 y3 y4 y5 y6=>Kb4 (fr4 y0 y1 y2 y3 y4 y5 y6)):=by kernel_rfl
theorem P5 (aA bA cA):ct5 (fr5 aA bA cA)=sh5 aA bA cA (fun y0 y1 y2 y3 y4 y5 y6=>(hid (it9 (hid ct8) 100000)) (fr9 y0 y1 y2 y3 y4 y5 y6)):=by kernel_rfl
theorem P6 (aA qA tA nA bA cA) (Kb5 Kb6:Kont U El):exec X (cdp [1,1,1,1,1,1,1,1,1,0,1,0,0] bd) (.seq none .d (.seq none .d (.seq (some nm7) .d .d))) (fr6 aA qA tA nA bA cA) (cutK nm6 Kb6) (Eblk 2 (cutK nm5 Kb5) (fun _ _=>none)) RR=sh6 aA qA tA nA bA cA (fun y0 y1 y2=>Kb5 (fr5 y0 y1 y2)) (fun y0 y1 y2 y3 y4 y5=>(hid (ct7 Kb5 Kb6)) (fr7 y0 y1 y2 y3 y4 y5)):=by kernel_rfl
theorem P7 (aA qA tA nA bA cA) (Kb5 Kb6:Kont U El):ct7 Kb5 Kb6 (fr7 aA qA tA nA bA cA)=sh7 aA qA tA nA bA cA (fun y0 y1 y2 y3 y4 y5=>Kb6 (fr6 y0 y1 y2 y3 y4 y5)):=by kernel_rfl
theorem P8 (aA bA cA iA jA):ct8 (fr8 aA bA cA iA jA)=sh8 aA bA cA iA jA (fun y0 y1 y2 y3 y4 y5=>(hid (it11 (hid ct10) 100000)) (fr11 y0 y1 y2 y3 y4 y5)):=by kernel_rfl
theorem P9 (aA oA mA bA cA iA jA) (Kb8 Kb9:Kont U El):exec X (cdp [1,1,1,1,1,1,1,1,1,1,1,0,1,0,0] bd) .d (fr9 aA oA mA bA cA iA jA) (cutK nm9 Kb9) (Eblk 4 (cutK nm8 Kb8) (fun _ _=>none)) RR=sh9 aA oA mA bA cA iA jA (fun y0 y1 y2 y3 y4=>Kb8 (fr8 y0 y1 y2 y3 y4)) (fun y0 y1 y2 y3 y4 y5 y6=>Kb9 (fr9 y0 y1 y2 y3 y4 y5 y6)):=by kernel_rfl
theorem P10:ct10 (fr10)=sh10:=by kernel_rfl
theorem P11 (aA rA lA kA bA cA) (Kb10 Kb11:Kont U El):exec X (cdp [1,1,1,1,1,1,1,1,1,1,1,1,1,1,0,1,0,0] bd) (.seq none .d (.seq none .d (.seq (some nm12) .d .d))) (fr11 aA rA lA kA bA cA) (cutK nm11 Kb11) (Eblk 6 (cutK nm10 Kb10) (fun _ _=>none)) RR=sh11 aA rA lA kA bA cA (Kb10 (fr10)) (fun y0 y1 y2 y3 y4 y5=>(hid (ct12 Kb10 Kb11)) (fr12 y0 y1 y2 y3 y4 y5)):=by kernel_rfl
theorem P12 (aA rA lA kA bA cA) (Kb10 Kb11:Kont U El):ct12 Kb10 Kb11 (fr12 aA rA lA kA bA cA)=sh12 aA rA lA kA bA cA (fun y0 y1 y2 y3 y4 y5=>Kb11 (fr11 y0 y1 y2 y3 y4 y5)):=by kernel_rfl
noncomputable def f10:R:=sh10
noncomputable def f12 (aB:Y11) (aA:List Int) (rA:List Int) (lA:Int) (kA:Int) (bA:List Spot) (cA:List Face):R:=sh12 aA rA lA kA bA cA aB
noncomputable def f11:Nat→Y11
  | 0=>fun _ _ _ _ _ _=>none
  | n+1=>fun aA rA lA kA bA cA=>sh11 aA rA lA kA bA cA f10 (f12 (f11 n))
noncomputable def f8 (aA:List Int) (bA:List Spot) (cA:List Face) (iA:List Spot) (jA:List Face):R:=sh8 aA bA cA iA jA (f11 100000)
noncomputable def f9:Nat→Y9
  | 0=>fun _ _ _ _ _ _ _=>none
  | n+1=>fun aA oA mA bA cA iA jA=>sh9 aA oA mA bA cA iA jA f8 (f9 n)
noncomputable def f5 (aA:List Int) (bA:List Spot) (cA:List Face):R:=sh5 aA bA cA (f9 100000)
noncomputable def f7 (k6:Y6) (aA:List Int) (qA:List Int) (tA:Int) (nA:Int) (bA:List Spot) (cA:List Face):R:=sh7 aA qA tA nA bA cA k6
noncomputable def f6:Nat→Y6
  | 0=>fun _ _ _ _ _ _=>none
  | n+1=>fun aA qA tA nA bA cA=>sh6 aA qA tA nA bA cA f5 (f7 (f6 n))
noncomputable def f3 (y9:List Int) (dA:List (List Int)) (bA:List Spot) (cA:List Face):R:=sh3 y9 dA bA cA (f6 100000)
noncomputable def f4:Nat→Y4
  | 0=>fun _ _ _ _ _ _ _=>none
  | n+1=>fun y9 dA xA zA wA bA cA=>sh4 y9 dA xA zA wA bA cA f3 (f4 n)
noncomputable def f2 (x7:List Int) (y9:List Int) (dA:List (List Int)) (bA:List Spot) (cA:List Face):R:=sh2 x7 y9 dA bA cA (f4 100000)
noncomputable def f1 (a1:Int) (b2:Int) (bA:List Spot) (cA:List Face):R:=sh1 a1 b2 bA cA f2
noncomputable def f0 (m:Mesh) (ta:Int) (tb:Int):R:=sh0 m ta tb f1
theorem T10:(hid ct10) (fr10)=f10:=by
  refine (congrFun (hid_eq _) _).trans <| (P10).trans ?_
  show _=sh10
  rfl
theorem T12 (KL11:Kont U El) (aB:Y11) (h11:∀ aA rA lA kA bA cA,KL11 (fr11 aA rA lA kA bA cA)=aB aA rA lA kA bA cA) (aA rA lA kA bA cA):(hid (ct12 (hid ct10) KL11)) (fr12 aA rA lA kA bA cA)=f12 aB aA rA lA kA bA cA:=by
  refine (congrFun (hid_eq _) _).trans <| (P12 aA rA lA kA bA cA (hid ct10) KL11).trans ?_
  show _=sh12 aA rA lA kA bA cA aB
  simp only [h11]
theorem T11:∀ (n:Nat),∀ aA rA lA kA bA cA,it11 (hid ct10) n (fr11 aA rA lA kA bA cA)=f11 n aA rA lA kA bA cA:=by
  intro n
  induction n with
  | zero=>intros; rfl
  | succ n ih =>
    intro aA rA lA kA bA cA
    refine (P11 aA rA lA kA bA cA (hid ct10) (it11 (hid ct10) n)).trans ?_
    show _=sh11 aA rA lA kA bA cA f10 (f12 (f11 n))
    simp only [T10,T12 (it11 (hid ct10) n) (f11 n) ih]
theorem H11 (aA rA lA kA bA cA):hid (it11 (hid ct10) 100000) (fr11 aA rA lA kA bA cA)=f11 100000 aA rA lA kA bA cA:=(congrFun (hid_eq _) _).trans (T11 100000 aA rA lA kA bA cA)
theorem T8 (aA bA cA iA jA):(hid ct8) (fr8 aA bA cA iA jA)=f8 aA bA cA iA jA:=by
  refine (congrFun (hid_eq _) _).trans <| (P8 aA bA cA iA jA).trans ?_
  show _=sh8 aA bA cA iA jA (f11 100000)
  simp only [H11]
theorem T9:∀ (n:Nat),∀ aA oA mA bA cA iA jA,it9 (hid ct8) n (fr9 aA oA mA bA cA iA jA)=f9 n aA oA mA bA cA iA jA:=by
  intro n
  induction n with
  | zero=>intros; rfl
  | succ n ih =>
    intro aA oA mA bA cA iA jA
    refine (P9 aA oA mA bA cA iA jA (hid ct8) (it9 (hid ct8) n)).trans ?_
    show _=sh9 aA oA mA bA cA iA jA f8 (f9 n)
    simp only [T8,ih]
theorem H9 (aA oA mA bA cA iA jA):hid (it9 (hid ct8) 100000) (fr9 aA oA mA bA cA iA jA)=f9 100000 aA oA mA bA cA iA jA:=(congrFun (hid_eq _) _).trans (T9 100000 aA oA mA bA cA iA jA)
theorem T5 (aA bA cA):(hid ct5) (fr5 aA bA cA)=f5 aA bA cA:=by
  refine (congrFun (hid_eq _) _).trans <| (P5 aA bA cA).trans ?_
  show _=sh5 aA bA cA (f9 100000)
  simp only [H9]
theorem T7 (KL6:Kont U El) (k6:Y6) (h6:∀ aA qA tA nA bA cA,KL6 (fr6 aA qA tA nA bA cA)=k6 aA qA tA nA bA cA) (aA qA tA nA bA cA):(hid (ct7 (hid ct5) KL6)) (fr7 aA qA tA nA bA cA)=f7 k6 aA qA tA nA bA cA:=by
  refine (congrFun (hid_eq _) _).trans <| (P7 aA qA tA nA bA cA (hid ct5) KL6).trans ?_
  show _=sh7 aA qA tA nA bA cA k6
  simp only [h6]
theorem T6:∀ (n:Nat),∀ aA qA tA nA bA cA,it6 (hid ct5) n (fr6 aA qA tA nA bA cA)=f6 n aA qA tA nA bA cA:=by
  intro n
  induction n with
  | zero=>intros; rfl
  | succ n ih =>
    intro aA qA tA nA bA cA
    refine (P6 aA qA tA nA bA cA (hid ct5) (it6 (hid ct5) n)).trans ?_
    show _=sh6 aA qA tA nA bA cA f5 (f7 (f6 n))
    simp only [T5,T7 (it6 (hid ct5) n) (f6 n) ih]
theorem H6 (aA qA tA nA bA cA):hid (it6 (hid ct5) 100000) (fr6 aA qA tA nA bA cA)=f6 100000 aA qA tA nA bA cA:=(congrFun (hid_eq _) _).trans (T6 100000 aA qA tA nA bA cA)
theorem T3 (y9 dA bA cA):(hid ct3) (fr3 y9 dA bA cA)=f3 y9 dA bA cA:=by
  refine (congrFun (hid_eq _) _).trans <| (P3 y9 dA bA cA).trans ?_
  show _=sh3 y9 dA bA cA (f6 100000)
  simp only [H6]
theorem T4:∀ (n:Nat),∀ y9 dA xA zA wA bA cA,it4 (hid ct3) n (fr4 y9 dA xA zA wA bA cA)=f4 n y9 dA xA zA wA bA cA:=by
  intro n
  induction n with
  | zero=>intros; rfl
  | succ n ih =>
    intro y9 dA xA zA wA bA cA
    refine (P4 y9 dA xA zA wA bA cA (hid ct3) (it4 (hid ct3) n)).trans ?_
    show _=sh4 y9 dA xA zA wA bA cA f3 (f4 n)
    simp only [T3,ih]
theorem H4 (y9 dA xA zA wA bA cA):hid (it4 (hid ct3) 100000) (fr4 y9 dA xA zA wA bA cA)=f4 100000 y9 dA xA zA wA bA cA:=(congrFun (hid_eq _) _).trans (T4 100000 y9 dA xA zA wA bA cA)
theorem T2 (x7 y9 dA bA cA):(hid ct2) (fr2 x7 y9 dA bA cA)=f2 x7 y9 dA bA cA:=by
  refine (congrFun (hid_eq _) _).trans <| (P2 x7 y9 dA bA cA).trans ?_
  show _=sh2 x7 y9 dA bA cA (f4 100000)
  simp only [H4]
theorem T1 (a1 b2 bA cA):(hid ct1) (fr1 a1 b2 bA cA)=f1 a1 b2 bA cA:=by
  refine (congrFun (hid_eq _) _).trans <| (P1 a1 b2 bA cA).trans ?_
  show _=sh1 a1 b2 bA cA f2
  simp only [T2]
theorem T0 (m ta tb):exec X bd (.seq none .d (.seq none .d (.seq (some nm1) .d (.seq none .d (.seq none .d (.seq none .d (.seq (some nm2) .d (.seq (some nm3) (.seq none .d (.block (.loop nm4 .d))) (.seq none .d (.seq (some nm5) (.seq none .d (.block (.loop nm6 (.seq none .d (.seq none .d (.seq (some nm7) .d .d)))))) (.seq none .d (.seq (some nm8) (.seq none .d (.block (.loop nm9 .d))) (.seq none .d (.seq none .d (.seq (some nm10) (.seq none .d (.block (.loop nm11 (.seq none .d (.seq none .d (.seq (some nm12) .d .d)))))) .d))))))))))))))) (fr0 m ta tb) RR (fun _ _=>none) RR=f0 m ta tb:=by
  refine (P0 m ta tb).trans ?_
  show _=sh0 m ta tb f1
  simp only [T1]
theorem run (m ta tb):runFn X bd (.seq none .d (.seq none .d (.seq (some nm1) .d (.seq none .d (.seq none .d (.seq none .d (.seq (some nm2) .d (.seq (some nm3) (.seq none .d (.block (.loop nm4 .d))) (.seq none .d (.seq (some nm5) (.seq none .d (.block (.loop nm6 (.seq none .d (.seq none .d (.seq (some nm7) .d .d)))))) (.seq none .d (.seq (some nm8) (.seq none .d (.block (.loop nm9 .d))) (.seq none .d (.seq none .d (.seq (some nm10) (.seq none .d (.block (.loop nm11 (.seq none .d (.seq none .d (.seq (some nm12) .d .d)))))) .d))))))))))))))) nmR [6] [] [(.agg [(.lst .spot m.ms),(.lst .face m.mf)]),(.int .u16 ta),(.int .u16 tb)]=f0 m ta tb:=T0 m ta tb
theorem all_in (y x:List Int) (bd:List (List Int)) (ms:List Spot) (mf:List Face) (hx:x.length≤90000) (hy:y.length≤90000) (h:∀ v∈x,v∈y):∀ (n i:Nat),x.length < n+i→i≤x.length→f4 n y bd x (Int.ofNat x.length) (i:Int) ms mf=f3 y bd ms mf:=by
  intro n
  induction n with
  | zero=>intro i h1 h2; omega
  | succ n ih =>
    intro i h1 h2
    show sh4 y bd x (Int.ofNat x.length) (i:Int) ms mf f3 (f4 n)=_
    unfold sh4
    by_cases hi:i < x.length
    · rw [iltT (by simp; omega), condT, inbT hi, chkT, nleT hy, chkT, toNat_nat, getD_lt hi, any_eqInt.2 (h _ (List.getElem_mem hi)), wrapS i (by omega)]
      exact ih (i+1) (by omega) hi
    · have : i = x.length := by omega
      subst this
      rw [iltF (by simp),condF]
theorem none_out (o y:List Int) (ms:List Spot) (mf:List Face) (hy:y.length≤90000) (ho:o.length≤90000) (h:∀ v∈y,0≤v∧v < (ms.length:Int)∧o.any (eqInt v)=false):∀ (n i:Nat),y.length < n+i→i≤y.length→f6 n o y (Int.ofNat y.length) (i:Int) ms mf=f5 o ms mf:=by
  intro n
  induction n with
  | zero=>intro i h1 h2; omega
  | succ n ih =>
    intro i h1 h2
    show sh6 o y (Int.ofNat y.length) (i:Int) ms mf f5 (f7 (f6 n))=_
    unfold sh6
    by_cases hi:i < y.length
    · obtain ⟨k1, k2, k3⟩ := h _ (List.getElem_mem hi)
      rw [iltT (by simp; omega),condT,inbT hi,chkT,toNat_nat,getD_lt hi,iltF (show ¬ y[i] < 0 by omega),condF,ileF (show ¬ Int.ofNat ms.length≤y[i] by simp; omega),condF,nleT ho,chkT,k3,condF]
      show f6 n o y (Int.ofNat y.length) (IntKind.wrap .i64 ((i:Int)+1)) ms mf=_
      rw [wrapS i (by omega)]
      exact ih (i+1) (by omega) hi
    · have : i = y.length := by omega
      subst this
      rw [iltF (by simp),condF]
theorem make7 (o : List Int) (m : Mesh) (hn : m.ms.length ≤ 90000) : ∀ (n i : Nat) (l : List Spot), m.ms.length < n + i → i ≤ m.ms.length → l = (m.ms.take i).map flat7 ++ m.ms.drop i → f9 n o (Int.ofNat m.ms.length) (i : Int) m.ms m.mf l m.mf = f8 o m.ms m.mf (m.ms.map flat7) m.mf := by
  intro n
  induction n with
  | zero=>intro i l h1 h2; omega
  | succ n ih =>
    intro i l h1 h2 hl
    show sh9 o (Int.ofNat m.ms.length) (i:Int) m.ms m.mf l m.mf f8 (f9 n)=_
    unfold sh9
    have hll:l.length=m.ms.length:=by rw [hl]; simp; omega
    by_cases hi:i < m.ms.length
    · have hli : l[i]'(by omega) = m.ms[i] := by
        subst hl
        rw [List.getElem_append_right (by rw [List.length_map,List.length_take]; omega)]
        simp [Nat.min_eq_left (Nat.le_of_lt hi)]
      rw [iltT (by simp; omega),condT,inbT (show i < l.length by omega),chkT,toNat_nat,nltT (show i < l.length by omega),Bool.and_self,chkT,getD_lt (show i < l.length by omega),hli,wrapS i (by omega)]
      refine ih (i+1) _ (by omega) hi ?_
      rw [hl,List.set_append_right _ _ (by simp; omega),drop_lt hi,take_lt hi,List.map_append]
      have:i - ((m.ms.take i).map flat7).length=0:=by simp; omega
      rw [this,List.set_cons_zero,List.append_assoc]
      rfl
    · have : i = m.ms.length := by omega
      subst this
      rw [iltF (by simp),condF,hl]
      simp
theorem last (o z : List Int) (ms : List Spot) (mf : List Face) (hf : mf.length ≤ 90000) (hz : z.length ≤ 90000) (ho : o.length ≤ 90000) (N : Nat) (hN : N ≤ 90000) (h : ∀ j : Nat, j < N → z.any (eqInt (j : Int)) = (mf.any (usesF (j : Int)) && !(o.any (eqInt (j : Int))))) : ∀ (n i : Nat), N < n + i → i ≤ N → f11 n o z (Int.ofNat N) (i : Int) ms mf = outB true := by
  intro n
  induction n with
  | zero=>intro i h1 h2; omega
  | succ n ih =>
    intro i h1 h2
    show sh11 o z (Int.ofNat N) (i:Int) ms mf f10 (f12 (f11 n))=_
    unfold sh11
    by_cases hi:i < N
    · have e12 : f12 (f11 n) o z (Int.ofNat N) (i : Int) ms mf = outB true := by
        show f11 n o z (Int.ofNat N) (IntKind.wrap .i64 ((i:Int)+1)) ms mf=_
        rw [wrapS i (by omega)]
        exact ih (i+1) (by omega) hi
      rw [iltT (by simp; omega),condT,nleT hf,chkT,nleT hz,chkT,nleT ho,chkT,h i hi,e12]
      cases mf.any (usesF (i:Int))<;>cases o.any (eqInt (i:Int))<;>rfl
    · have : i = N := by omega
      subst this
      rw [iltF (by simp),condF]
      rfl
theorem f0_eq (m : Mesh) (ta tb : Int) (h : (Lit.wf (.int .u16 ta) && Lit.wf (.int .u16 tb)) = true) : f0 m ta tb = outB true := by
  have hr:0≤ta∧ta≤65535∧0≤tb∧tb≤65535:=by
    simp only [Lit.wf,Bool.and_eq_true,decide_eq_true_eq] at h
    have h1:(0:Int)≤ta:=h.1.1
    have h2:ta≤(65535:Int):=h.1.2
    have h3:(0:Int)≤tb:=h.2.1
    have h4:tb≤(65535:Int):=h.2.2
    omega
  obtain ⟨a0,a1,b0,b1⟩:=hr
  show sh0 m ta tb f1=_
  unfold sh0
  cases hl:largeB m with
  | true=>rfl
  | false =>
  have hs:=large_size hl
  rw [show (!true)=false from rfl,condF,condF,hs,chkT]
  cases hv:validM m with
  | false=>rfl
  | true =>
  rw [show (!true)=false from rfl,condF]
  have hsz:=valid_small hv
  show sh1 ta tb m.ms m.mf f2=_
  unfold sh1
  obtain ⟨hbk,dn,hK⟩:=border_valid hv
  have wa:IntKind.wrap .i64 ta=ta:=wrapI (by omega) (by omega)
  have wb:IntKind.wrap .i64 tb=tb:=wrapI (by omega) (by omega)
  have ws:IntKind.wrap .i64 (ta+tb)=ta+tb:=wrapI (by omega) (by omega)
  have t1:tolOk ta=true:=by unfold tolOk; rw [ileT a0,ileT (by omega)]; rfl
  have t2:tolOk (ta+tb)=true:=by unfold tolOk; rw [ileT (by omega),ileT (by omega)]; rfl
  have te:∀ t,tolOk t=true→thinE m t=0:=fun t ht=>by unfold thinE; rw [hv,ht]; rfl
  have hA:argE m=0:=by unfold argE; rw [hv]; rfl
  show chk (sizeOk m) (chk (sizeOk m) (chk (brdOk m) (condB (thinE m (IntKind.wrap .i64 ta) != 0) _ (condB (thinE m (IntKind.wrap .i64 (IntKind.wrap .i64 ta+IntKind.wrap .i64 tb)) != 0) _ (condB (argE m != 0) _ (f2 (thinL m (IntKind.wrap .i64 ta)) (thinL m (IntKind.wrap .i64 (IntKind.wrap .i64 ta+IntKind.wrap .i64 tb))) (borderL m) m.ms m.mf))))))=_
  rw [hs,hbk,chkT,chkT,chkT,wa,wb,ws,te _ t1,te _ t2,hA,show ((0:Int) != 0)=false from rfl,condF,condF,condF]
  have lx:=thin_len m ta; have ly:=thin_len m (ta+tb)
  have hsub:∀ v∈thinL m ta,v∈thinL m (ta+tb):=fun v hx=>by
    obtain ⟨j,hj,rfl,hf⟩:=(mem_thin hv t1 v).1 hx
    exact (mem_thin hv t2 _).2 ⟨j,hj,rfl,flat_mono (by omega) _ hf⟩
  show f4 100000 (thinL m (ta+tb)) (borderL m) (thinL m ta) (Int.ofNat (thinL m ta).length) ((0:Nat):Int) m.ms m.mf=_
  rw [all_in _ _ (borderL m) m.ms m.mf (by omega) (by omega) hsub 100000 0 (by omega) (by omega)]
  have hol:(List.flatten (borderL m)).length≤180∧(borderL m).length≤180:=by
    have h60:m.mf.length≤60:=by
      simp only [largeB,Bool.or_eq_false_iff] at hl
      have k:=hl.2.1
      cases hq:ilt (60:Int) (Int.ofNat m.mf.length) with
      | false=>have:=iltN hq; simp at this; omega
      | true =>
        rw [hq,Bool.true_and] at k
        have:=ileN k
        simp at this
        omega
    have:=hK.fl; have:=hK.ol
    omega
  show chk (lensOk (borderL m)) (f6 100000 (List.flatten (borderL m)) (thinL m (ta+tb)) (Int.ofNat (thinL m (ta+tb)).length) ((0:Nat):Int) m.ms m.mf)=_
  have hlo:lensOk (borderL m)=true:=by unfold lensOk; rw [nleT (by omega),nleT (by omega)]; rfl
  have hno:∀ v∈thinL m (ta+tb),0≤v∧v < (m.ms.length:Int)∧(List.flatten (borderL m)).any (eqInt v)=false:=fun v hx=>by
    obtain ⟨j,hj,rfl,hf⟩:=(mem_thin hv t2 v).1 hx
    exact ⟨by omega,by omega,flat_inside hv hf⟩
  rw [hlo,chkT,none_out _ _ m.ms m.mf (by omega) (by omega) hno 100000 0 (by omega) (by omega)]
  show chk (sizeOk m) (f9 100000 (List.flatten (borderL m)) (Int.ofNat m.ms.length) ((0:Nat):Int) m.ms m.mf m.ms m.mf)=_
  rw [hs,chkT,make7 _ m (by omega) 100000 0 m.ms (by omega) (by omega) (by simp)]
  have hlv:=level_valid hv
  have hlm:=valid_small hlv
  have hlz:sizeOk (level m)=true:=by unfold sizeOk; rw [nleT (by omega),nleT (by omega)]; rfl
  have t0:tolOk 0=true:=rfl
  have hte:thinE (level m) 0=0:=by unfold thinE; rw [hlv]; rfl
  have lz:=thin_len (level m) 0
  show chk (sizeOk (level m)) (condB (thinE (level m) 0 != 0) _ (f11 100000 (List.flatten (borderL m)) (thinL (level m) 0) (Int.ofNat m.ms.length) ((0:Nat):Int) m.ms m.mf))=_
  rw [hlz,chkT,hte,show ((0:Int) != 0)=false from rfl,condF]
  refine last _ _ m.ms m.mf (by omega) (by omega) (by omega) m.ms.length (by omega) (fun j hj => ?_) 100000 0 (by omega) (by omega)
  rw [← flat_level hv]
  rw [Bool.eq_iff_iff,any_eqInt,mem_thin hlv t0]
  constructor
  · rintro ⟨k, hk, e, hf⟩
    have:k=j:=by omega
    subst this
    exact hf
  · intro hf
    exact ⟨j,by simp [level]; exact hj,rfl,hf⟩
theorem ok:CtxOk Tryz.prog X:=ctxOk tab (spC awake.spOk (spC large.spOk (spC rvalid.spOk (spC thin.spOk (spC border.spOk (spC hasI.spOk (spC concatI.spOk (spC tol1C.spOk spN)))))))) dpN
theorem okM:MOk Tryz.prog X:=mspecOf_ok _ (mpC (mcSp_ok ok rcopy.spOk) mpN)
theorem spec (m:Mesh) (ta:Int) (tb:Int) (h:((Lit.wf (.int .u16 ta)&&Lit.wf (.int .u16 tb)))=true):CallSpec Tryz.prog E 5 [(.agg [(.lst .spot m.ms),(.lst .face m.mf)]),(.int .u16 ta),(.int .u16 tb)] (.bool (true)) [] :=
  runFn_sound ok okM Tryz.call5 Tryz.func5 (by kernel_rfl) (by kernel_rfl) (by kernel_rfl) (by show 3≤142; decide) (by decide) (by rfl) ((run m ta tb).trans (f0_eq m ta tb h))
noncomputable def sp:Sp U El:=fun args k=>match args with
  | [.agg [.lst .spot m_ms,.lst .face m_mf],.int .u16 ta,.int .u16 tb]=>chk ((Lit.wf (.int .u16 ta)&&Lit.wf (.int .u16 tb))) (k (.bool (true)) [])
  | _=>none
theorem spOk:SpOk Tryz.prog E 5 sp where
  det:=fun vs=>by
    unfold sp
    split
    · exact det_c _ _ _
    · exact ⟨none,fun _=>rfl⟩
  ok:=fun vs k r h=>by
    unfold sp at h
    split at h
    · obtain ⟨h1, h2⟩ := chk_some h
      exact ⟨_,_,spec ⟨_,_⟩ _ _ h1,h2⟩
    · cases h
end lawTol
end Go.Proofs.YtnofdcckddfooaaGreatDoor
