/- Weights, scores, grades: the code's and the document's. -/
import Derived.Test.YtnhmhcobpbilhaaGreatDoorVC
namespace Go.Proofs.YtnhmhcobpbilhaaGreatDoor
variable [Drw]
set_option linter.unusedSectionVars false
set_option linter.unusedSimpArgs false
set_option linter.unusedVariables false
set_option maxRecDepth 100000
theorem pts_bound (c:List UInt8):0≤pointsZ c∧pointsZ c≤20:=by
  unfold pointsZ
  cases c == [67,82]; rotate_left; · simp only [cond_true]; omega
  cases c == [70,82]; rotate_left; · simp only [cond_true,cond_false]; omega
  cases c == [66,82]; rotate_left; · simp only [cond_true,cond_false]; omega
  cases c == [68,74]||c == [73,78]; rotate_left; · simp only [cond_true,cond_false]; omega
  cases c == [82,79]||c == [67,79]; rotate_left; · simp only [cond_true,cond_false]; omega
  cases c == [68,69]; rotate_left; · simp only [cond_true,cond_false]; omega
  cases c == [79,66]; rotate_left; · simp only [cond_true,cond_false]; omega
  simp only [cond_false]; omega
noncomputable def okD (d:Df):Bool:=ile 0 d.l&&(ile d.l 16777216&&(ile 1 d.s&&ile d.s 5))
theorem okD_iff {d:Df}:okD d=true↔0≤d.l∧d.l≤16777216∧1≤d.s∧d.s≤5:=by simp [okD,ile]
noncomputable def weightZ (d:Df):Int:=pointsZ d.c * 2 ^ Int.toNat (d.s - 1)
theorem weight_bound {d:Df} (h:okD d=true):0≤weightZ d∧weightZ d≤320:=by
  obtain ⟨_,_,h1,h2⟩:=okD_iff.1 h
  have hp:=pts_bound d.c
  unfold weightZ
  have:d.s=1∨d.s=2∨d.s=3∨d.s=4∨d.s=5:=by omega
  rcases this with e | e | e | e | e<;>rw [e]<;>simp<;>omega
noncomputable def spanZ (d:Df):Int:=Int.tdiv (d.l+999) 1000
theorem span_bound {d:Df} (h:okD d=true):0≤spanZ d∧spanZ d≤16778:=by
  obtain ⟨h1,h2,_,_⟩:=okD_iff.1 h
  unfold spanZ
  rw [Int.tdiv_eq_ediv_of_nonneg (by omega)]
  omega
noncomputable def partsZ (d:Df):Int:=bif ilt 1 (spanZ d) then spanZ d else 1
theorem parts_bound {d:Df} (h:okD d=true):1≤partsZ d∧partsZ d≤16778:=by
  have:=span_bound h
  unfold partsZ
  cases e:ilt 1 (spanZ d)
  · simp
  · have:=iltI e; simp; omega
noncomputable def oneZ (d:Df):Int:=weightZ d * partsZ d
theorem one_bound {d:Df} (h:okD d=true):0≤oneZ d∧oneZ d≤5368960:=by
  have h1:=weight_bound h
  have h2:=parts_bound h
  unfold oneZ
  refine ⟨Int.mul_nonneg h1.1 (by omega),?_⟩
  have:=Int.mul_le_mul h1.2 h2.2 (by omega) (by omega)
  omega
noncomputable def totZ:List Df→Int
  | []=>0
  | d :: l=>oneZ d+totZ l
noncomputable def okL (l:List Df):Bool:=nle l.length 1000&&l.all okD
theorem okL_len {l:List Df} (h:okL l=true):l.length≤1000:=by
  have:=(Bool.and_eq_true _ _ ▸ h).1; exact of_decide_eq_true this
theorem okL_at {l:List Df} (h:okL l=true) {i:Nat} (hi:i < l.length):okD l[i]=true:=by
  have:=(Bool.and_eq_true _ _ ▸ h).2; exact List.all_eq_true.1 this _ (List.getElem_mem hi)
theorem tot_bound:∀ {l:List Df},l.all okD=true→0≤totZ l∧totZ l≤5368960 * l.length:=by
  intro l
  induction l with
  | nil=>intro _; simp [totZ]
  | cons d l ih =>
    intro h
    simp only [List.all_cons,Bool.and_eq_true] at h
    have h1:=one_bound h.1
    have h2:=ih h.2
    simp only [totZ,List.length_cons]
    omega
noncomputable def worstZ:Int→List Df→Int
  | w,[]=>w
  | w,d :: l=>worstZ (bif ilt w (weightZ d) then weightZ d else w) l
noncomputable def gr (n:Int):Int→List Int→Int
  | i,[]=>i+1
  | i,x :: l=>bif ilt n x then i+1 else gr n (i+1) l
noncomputable def gradeZ (n:Int) (l:List Int):Int:=gr n 0 l
noncomputable def stp (n:Int):Int→List Int→Int
  | o,[]=>o
  | o,x :: l=>stp n (bif ile x n then o+1 else o) l
noncomputable def stepZ (n:Int) (l:List Int):Int:=stp n 1 l
noncomputable def rgradeZ (L:Int) (l:List Df):Int :=
  bif ilt (stepZ (worstZ 0 l) [10,40,80,160]) (stepZ (Int.tdiv (1000 * totZ l) L) [5,20,50,100]) then stepZ (Int.tdiv (1000 * totZ l) L) [5,20,50,100] else stepZ (worstZ 0 l) [10,40,80,160]
noncomputable def gradeF (L:Int) (l:List Df):Int:=bif validB L l then rgradeZ L l else 0
noncomputable def scoreZ (L:Int) (l:List Df):Int:=bif validB L l then totZ l else 0
noncomputable def scoreE (L:Int) (l:List Df):Int:=bif validB L l then 0 else 1
theorem grade_step (n a b c d:Int) (h1:a≤b) (h2:b≤c) (h3:c≤d):gradeZ n [a,b,c,d]=stepZ n [a,b,c,d]:=by
  simp only [gradeZ,stepZ,gr,stp,ilt,ile,Bool.cond_decide]
  repeat' split
  all_goals omega
theorem right_ok {L:Int} (hL:pos16 L=true) {d:Df} (h:rightB L d=true):okD d=true:=by
  have:=pos16_iff.1 hL
  simp only [rightB,ile,ilt,Bool.and_eq_true,decide_eq_true_eq] at h
  exact okD_iff.2 ⟨by omega,by omega,by omega,by omega⟩
theorem chain_ok {L:Int} (hL:pos16 L=true):∀ {l:List Df} {p:Option Df},chainB L p l=true→l.all okD=true:=by
  intro l
  induction l with
  | nil=>intros; rfl
  | cons d l ih =>
    intro p h
    simp only [chainB,Bool.and_eq_true] at h
    simp only [List.all_cons,Bool.and_eq_true]
    exact ⟨right_ok hL h.1,ih h.2.2⟩
theorem valid_okL {L:Int} {l:List Df} (h:validB L l=true):okL l=true∧pos16 L=true:=by
  simp only [validB,Bool.and_eq_true] at h
  exact ⟨by simp only [okL,Bool.and_eq_true]; exact ⟨h.2.1,chain_ok h.1 h.2.2⟩,h.1⟩
namespace weight
noncomputable def bd:Code:=(Tryz.f35.body).getD .skip
noncomputable def X:Ctx U El:=⟨E,tds,zeros,eqs,specOf [(50,points.sp)],100000,10,dspecOf [],fun _=>none⟩
noncomputable def nmR:Norm U:=⟨[],[2],[],[],[],[],[]⟩
noncomputable def RR:Kont U El:=fun st=>normK nmR st (retFin [2] [])
noncomputable def fr0 (d:Df):St U El:=⟨[(0,(.agg [(.str d.c),(.int .i64 d.a),(.int .i64 d.l),(.int .i64 d.s)]))],[]⟩
noncomputable def sh0 (d:Df):R :=
  chk (ile 0 (IntKind.wrap .i64 (d.s - (1:Int)))) (some ((.int .i64 (IntKind.wrap .i64 ((pointsZ d.c) * 2 ^ min (Int.toNat (IntKind.wrap .i64 (d.s - (1:Int)))) (IntKind.bits .i64)))),[]))
theorem P0 (d):exec X (cdp [] bd) .d (fr0 d) RR (fun _ _=>none) RR=sh0 d:=by kernel_rfl
noncomputable def f0 (d:Df):R:=sh0 d
theorem T0 (d):exec X bd .d (fr0 d) RR (fun _ _=>none) RR=f0 d:=by
  refine (P0 d).trans ?_
  show _=sh0 d
  rfl
theorem run (d):runFn X bd .d nmR [2] [] [(.agg [(.str d.c),(.int .i64 d.a),(.int .i64 d.l),(.int .i64 d.s)])]=f0 d:=T0 d
theorem f0_eq (d:Df) (h:okD d=true):f0 d=some (.int .i64 (weightZ d),[]):=by
  obtain ⟨_,_,h1,h2⟩:=okD_iff.1 h
  have hb:=weight_bound h
  unfold f0 sh0
  rw [wrapI (x:=d.s - 1) (by omega) (by omega),ileT (by omega),show min (Int.toNat (d.s - 1)) (IntKind.bits .i64)=Int.toNat (d.s - 1) from Nat.min_eq_left (by show _≤64; omega)]
  show some (AV.int IntKind.i64 (IntKind.wrap .i64 (weightZ d)),[])=_
  rw [wrapI (by omega) (by omega)]
theorem ok:CtxOk Tryz.prog X:=ctxOk tab (spC points.spOk spN) dpN
theorem okM:MOk Tryz.prog X:=fun g sp h=>by cases h
theorem spec (d:Df) (h:(okD d)=true):CallSpec Tryz.prog E 35 [(.agg [(.str d.c),(.int .i64 d.a),(.int .i64 d.l),(.int .i64 d.s)])] (.int .i64 (weightZ d)) [] :=
  runFn_sound ok okM Tryz.call35 Tryz.func35 (by kernel_rfl) (by kernel_rfl) (by kernel_rfl) (by show 1≤10; decide) (by decide) (by rfl) ((run d).trans (f0_eq d h))
noncomputable def sp:Sp U El:=fun args k=>match args with
  | [.agg [.str d_c,.int .i64 d_a,.int .i64 d_l,.int .i64 d_s]]=>chk (okD (⟨d_c,d_a,d_l,d_s⟩:Df)) (k (.int .i64 (weightZ (⟨d_c,d_a,d_l,d_s⟩:Df))) [])
  | _=>none
theorem spOk:SpOk Tryz.prog E 35 sp where
  det:=fun vs=>by
    unfold sp
    split
    · exact det_c _ _ _
    · exact ⟨none,fun _=>rfl⟩
  ok:=fun vs k r h=>by
    unfold sp at h
    split at h
    · obtain ⟨h1, h2⟩ := chk_some h
      exact ⟨_,_,spec ⟨_,_,_,_⟩ h1,h2⟩
    · cases h
end weight
theorem rone.one_wrap {d:Df} (h:okD d=true):IntKind.wrap .i64 (weightZ d * (bif ilt 1 (IntKind.wrap .i64 (Int.tdiv (IntKind.wrap .i64 (d.l+999)) 1000)) then IntKind.wrap .i64 (Int.tdiv (IntKind.wrap .i64 (d.l+999)) 1000) else 1))=oneZ d:=by
  obtain ⟨h1,h2,_,_⟩:=okD_iff.1 h
  have hs:=span_bound h
  have ho:=one_bound h
  rw [wrapI (x:=d.l+999) (by omega) (by omega)]
  change IntKind.wrap .i64 (weightZ d * (bif ilt 1 (IntKind.wrap .i64 (spanZ d)) then IntKind.wrap .i64 (spanZ d) else 1))=oneZ d
  rw [wrapI (x:=spanZ d) (by omega) (by omega)]
  change IntKind.wrap .i64 (oneZ d)=oneZ d
  rw [wrapI (by omega) (by omega)]
theorem rgrade.tail (l:List Df) (L:Int) (h:okL l=true) (hL:pos16 L=true) (w:Int):IntKind.wrap .i64 (Int.tdiv (IntKind.wrap .i64 (1000 * totZ l)) L)=Int.tdiv (1000 * totZ l) L∧(L != 0)=true:=by
  have hL:=pos16_iff.1 hL
  have hl:=okL_len h
  have ht:=tot_bound ((Bool.and_eq_true _ _ ▸ h).2)
  rw [wrapI (x:=1000 * totZ l) (by omega) (by omega)]
  have h0:0≤Int.tdiv (1000 * totZ l) L:=Int.tdiv_nonneg (by omega) (by omega)
  have h1:Int.tdiv (1000 * totZ l) L≤1000 * totZ l:=by
    rw [Int.tdiv_eq_ediv_of_nonneg (by omega)]
    exact Int.ediv_le_self _ (by omega)
  exact ⟨wrapI (by omega) (by omega),by simp; omega⟩
namespace total
noncomputable def bd:Code:=(Tryz.f34.body).getD .skip
noncomputable def X:Ctx U El:=⟨E,tds,zeros,eqs,specOf [(35,weight.sp)],100000,24,dspecOf [],fun _=>none⟩
noncomputable def nmR:Norm U:=⟨[],[2],[],[],[],[],[]⟩
noncomputable def RR:Kont U El:=fun st=>normK nmR st (retFin [2] [])
noncomputable def nm1:Norm U:=⟨[],[3],[],[],[],[],[]⟩
noncomputable def nm2:Norm U:=⟨[],[3,6,7,8],[],[],[],[],[]⟩
abbrev Y1:=Int→R
abbrev Y2:=Int→(List Df)→Int→Int→R
noncomputable def fr0 (l:List Df):St U El:=⟨[(0,(.lst .df l))],[]⟩
noncomputable def fr1 (dA:Int):St U El:=⟨[(3,(.int .i64 dA))],[]⟩
noncomputable def fr2 (dA:Int) (x6:List Df) (x7:Int) (x8:Int):St U El:=⟨[(3,(.int .i64 dA)),(6,(.lst .df x6)),(7,(.int .i64 x7)),(8,(.int .i64 x8))],[]⟩
noncomputable def sh0 (l:List Df) (k2:Y2):R :=
  k2 (0:Int) l (Int.ofNat (List.length l)) (0:Int)
noncomputable def sh1 (dA:Int):R :=
  some ((.int .i64 dA),[])
noncomputable def sh2 (dA:Int) (x6:List Df) (x7:Int) (x8:Int) (k1:Y1) (k2:Y2):R :=
  condB (ilt x8 x7) (chk (inb x8 (List.length x6)) (chk (okD (List.getD x6 (Int.toNat x8) d_df)) (k2 (IntKind.wrap .i64 (dA+(IntKind.wrap .i64 ((weightZ (List.getD x6 (Int.toNat x8) d_df)) * (bif ilt (1:Int) (IntKind.wrap .i64 (Int.tdiv (IntKind.wrap .i64 ((List.getD x6 (Int.toNat x8) d_df).l+(999:Int))) (1000:Int))) then (IntKind.wrap .i64 (Int.tdiv (IntKind.wrap .i64 ((List.getD x6 (Int.toNat x8) d_df).l+(999:Int))) (1000:Int))) else (1:Int)))))) x6 x7 (IntKind.wrap .i64 (x8+(1:Int)))))) (k1 dA)
noncomputable def it2 (Kb1:Kont U El) (n:Nat):Kont U El:=iter nm2 (fun st' K'=>exec X (cdp [1,1,0,1,0,0] bd) .d st' K' (Eblk 0 (cutK nm1 Kb1) (fun _ _=>none)) RR) n
noncomputable def ct1:Kont U El:=fun st=>exec X (cdp [1,1,1] bd) .d st RR (fun _ _=>none) RR
theorem P0 (l):exec X (cdp [] bd) (.seq none .d (.seq none .d (.seq (some nm1) (.seq none .d (.block (.loop nm2 .d))) .d))) (fr0 l) RR (fun _ _=>none) RR=sh0 l (fun y0 y1 y2 y3=>(hid (it2 (hid ct1) 100000)) (fr2 y0 y1 y2 y3)):=by kernel_rfl
theorem P1 (dA):ct1 (fr1 dA)=sh1 dA:=by kernel_rfl
theorem P2 (dA x6 x7 x8) (Kb1 Kb2:Kont U El):exec X (cdp [1,1,0,1,0,0] bd) .d (fr2 dA x6 x7 x8) (cutK nm2 Kb2) (Eblk 0 (cutK nm1 Kb1) (fun _ _=>none)) RR=sh2 dA x6 x7 x8 (fun y0=>Kb1 (fr1 y0)) (fun y0 y1 y2 y3=>Kb2 (fr2 y0 y1 y2 y3)):=by kernel_rfl
noncomputable def f1 (dA:Int):R:=sh1 dA
noncomputable def f2:Nat→Y2
  | 0=>fun _ _ _ _=>none
  | n+1=>fun dA x6 x7 x8=>sh2 dA x6 x7 x8 f1 (f2 n)
noncomputable def f0 (l:List Df):R:=sh0 l (f2 100000)
theorem T1 (dA):(hid ct1) (fr1 dA)=f1 dA:=by
  refine (congrFun (hid_eq _) _).trans <| (P1 dA).trans ?_
  show _=sh1 dA
  rfl
theorem T2:∀ (n:Nat),∀ dA x6 x7 x8,it2 (hid ct1) n (fr2 dA x6 x7 x8)=f2 n dA x6 x7 x8:=by
  intro n
  induction n with
  | zero=>intros; rfl
  | succ n ih =>
    intro dA x6 x7 x8
    refine (P2 dA x6 x7 x8 (hid ct1) (it2 (hid ct1) n)).trans ?_
    show _=sh2 dA x6 x7 x8 f1 (f2 n)
    simp only [T1,ih]
theorem H2 (dA x6 x7 x8):hid (it2 (hid ct1) 100000) (fr2 dA x6 x7 x8)=f2 100000 dA x6 x7 x8:=(congrFun (hid_eq _) _).trans (T2 100000 dA x6 x7 x8)
theorem T0 (l):exec X bd (.seq none .d (.seq none .d (.seq (some nm1) (.seq none .d (.block (.loop nm2 .d))) .d))) (fr0 l) RR (fun _ _=>none) RR=f0 l:=by
  refine (P0 l).trans ?_
  show _=sh0 l (f2 100000)
  simp only [H2]
theorem run (l):runFn X bd (.seq none .d (.seq none .d (.seq (some nm1) (.seq none .d (.block (.loop nm2 .d))) .d))) nmR [2] [] [(.lst .df l)]=f0 l:=T0 l
theorem loop (l:List Df) (h:okL l=true):∀ (n i:Nat) (s:Int),l.length < n+i→i≤l.length→0≤s→s≤5368960 * i→f2 n s l (Int.ofNat l.length) (i:Int)=some (.int .i64 (s+totZ (l.drop i)),[]):=by
  have hl:=okL_len h
  intro n
  induction n with
  | zero=>intro i s h1 h2; omega
  | succ n ih =>
    intro i s h1 h2 hs0 hs1
    show sh2 s l (Int.ofNat l.length) i f1 (f2 n)=_
    unfold sh2
    by_cases hi:i < l.length
    · have hd := okL_at h hi
      have ho:=one_bound hd
      rw [iltT (by simp; omega),inbT hi,toNat_nat,getD_lt hi,rone.one_wrap hd,hd,drop_lt hi,wrapS i (by omega),wrapI (by omega) (by omega)]
      refine (ih (i+1) (s+oneZ l[i]) (by omega) (by omega) (by omega) (by omega)).trans ?_
      simp only [totZ,Int.add_assoc]
    · have : i = l.length := by omega
      subst this
      rw [iltF (by simp),List.drop_length,show s+totZ []=s by simp [totZ]]
      rfl
theorem f0_eq (l:List Df) (h:okL l=true):f0 l=some (.int .i64 (totZ l),[]):=by
  have hl:=okL_len h
  refine (loop l h 100000 0 0 (by omega) (by omega) (by omega) (by omega)).trans ?_
  rw [Int.zero_add]; rfl
theorem ok:CtxOk Tryz.prog X:=ctxOk tab (spC weight.spOk spN) dpN
theorem okM:MOk Tryz.prog X:=fun g sp h=>by cases h
theorem spec (l:List Df) (h:(okL l)=true):CallSpec Tryz.prog E 34 [(.lst .df l)] (.int .i64 (totZ l)) [] :=
  runFn_sound ok okM Tryz.call34 Tryz.func34 (by kernel_rfl) (by kernel_rfl) (by kernel_rfl) (by show 1≤24; decide) (by decide) (by rfl) ((run l).trans (f0_eq l h))
noncomputable def sp:Sp U El:=fun args k=>match args with
  | [.lst .df l]=>chk (okL l) (k (.int .i64 (totZ l)) [])
  | _=>none
theorem spOk:SpOk Tryz.prog E 34 sp where
  det:=fun vs=>by
    unfold sp
    split
    · exact det_c _ _ _
    · exact ⟨none,fun _=>rfl⟩
  ok:=fun vs k r h=>by
    unfold sp at h
    split at h
    · obtain ⟨h1, h2⟩ := chk_some h
      exact ⟨_,_,spec _ h1,h2⟩
    · cases h
end total
namespace grade
noncomputable def bd:Code:=(Tryz.f36.body).getD .skip
noncomputable def X:Ctx U El:=⟨E,tds,zeros,eqs,specOf [],100000,23,dspecOf [],fun _=>none⟩
noncomputable def nmR:Norm U:=⟨[],[4],[],[],[],[],[]⟩
noncomputable def RR:Kont U El:=fun st=>normK nmR st (retFin [4] [])
noncomputable def nm1:Norm U:=⟨[],[1],[],[],[],[],[]⟩
noncomputable def nm2:Norm U:=⟨[],[0,1,7,8,9],[],[],[],[],[]⟩
abbrev Y1:=(List Int)→R
abbrev Y2:=Int→(List Int)→(List Int)→Int→Int→R
noncomputable def fr0 (n:Int) (l:List Int):St U El:=⟨[(0,(.int .i64 n)),(1,(.lst .int l))],[]⟩
noncomputable def fr1 (bA:List Int):St U El:=⟨[(1,(.lst .int bA))],[]⟩
noncomputable def fr2 (n0:Int) (bA:List Int) (x7:List Int) (x8:Int) (x9:Int):St U El:=⟨[(0,(.int .i64 n0)),(1,(.lst .int bA)),(7,(.lst .int x7)),(8,(.int .i64 x8)),(9,(.int .i64 x9))],[]⟩
noncomputable def sh0 (n:Int) (l:List Int) (k2:Y2):R :=
  k2 n l l (Int.ofNat (List.length l)) (0:Int)
noncomputable def sh1 (bA:List Int):R :=
  some ((.int .i64 (IntKind.wrap .i64 ((Int.ofNat (List.length bA))+(1:Int)))),[])
noncomputable def sh2 (n0:Int) (bA:List Int) (x7:List Int) (x8:Int) (x9:Int) (k1:Y1) (k2:Y2):R :=
  condB (ilt x9 x8) (chk (inb x9 (List.length x7)) (condB (ilt n0 (List.getD x7 (Int.toNat x9) d_int)) (some ((.int .i64 (IntKind.wrap .i64 (x9+(1:Int)))),[])) (k2 n0 bA x7 x8 (IntKind.wrap .i64 (x9+(1:Int)))))) (k1 bA)
noncomputable def it2 (Kb1:Kont U El) (n:Nat):Kont U El:=iter nm2 (fun st' K'=>exec X (cdp [1,0,1,0,0] bd) .d st' K' (Eblk 0 (cutK nm1 Kb1) (fun _ _=>none)) RR) n
noncomputable def ct1:Kont U El:=fun st=>exec X (cdp [1,1] bd) .d st RR (fun _ _=>none) RR
theorem P0 (n l):exec X (cdp [] bd) (.seq none .d (.seq (some nm1) (.seq none .d (.block (.loop nm2 .d))) .d)) (fr0 n l) RR (fun _ _=>none) RR=sh0 n l (fun y0 y1 y2 y3 y4=>(hid (it2 (hid ct1) 100000)) (fr2 y0 y1 y2 y3 y4)):=by kernel_rfl
theorem P1 (bA):ct1 (fr1 bA)=sh1 bA:=by kernel_rfl
theorem P2 (n0 bA x7 x8 x9) (Kb1 Kb2:Kont U El):exec X (cdp [1,0,1,0,0] bd) .d (fr2 n0 bA x7 x8 x9) (cutK nm2 Kb2) (Eblk 0 (cutK nm1 Kb1) (fun _ _=>none)) RR=sh2 n0 bA x7 x8 x9 (fun y0=>Kb1 (fr1 y0)) (fun y0 y1 y2 y3 y4=>Kb2 (fr2 y0 y1 y2 y3 y4)):=by kernel_rfl
noncomputable def f1 (bA:List Int):R:=sh1 bA
noncomputable def f2:Nat→Y2
  | 0=>fun _ _ _ _ _=>none
  | n+1=>fun n0 bA x7 x8 x9=>sh2 n0 bA x7 x8 x9 f1 (f2 n)
noncomputable def f0 (n:Int) (l:List Int):R:=sh0 n l (f2 100000)
theorem T1 (bA):(hid ct1) (fr1 bA)=f1 bA:=by
  refine (congrFun (hid_eq _) _).trans <| (P1 bA).trans ?_
  show _=sh1 bA
  rfl
theorem T2:∀ (n:Nat),∀ n0 bA x7 x8 x9,it2 (hid ct1) n (fr2 n0 bA x7 x8 x9)=f2 n n0 bA x7 x8 x9:=by
  intro n
  induction n with
  | zero=>intros; rfl
  | succ n ih =>
    intro n0 bA x7 x8 x9
    refine (P2 n0 bA x7 x8 x9 (hid ct1) (it2 (hid ct1) n)).trans ?_
    show _=sh2 n0 bA x7 x8 x9 f1 (f2 n)
    simp only [T1,ih]
theorem H2 (n0 bA x7 x8 x9):hid (it2 (hid ct1) 100000) (fr2 n0 bA x7 x8 x9)=f2 100000 n0 bA x7 x8 x9:=(congrFun (hid_eq _) _).trans (T2 100000 n0 bA x7 x8 x9)
theorem T0 (n l):exec X bd (.seq none .d (.seq (some nm1) (.seq none .d (.block (.loop nm2 .d))) .d)) (fr0 n l) RR (fun _ _=>none) RR=f0 n l:=by
  refine (P0 n l).trans ?_
  show _=sh0 n l (f2 100000)
  simp only [H2]
theorem run (n l):runFn X bd (.seq none .d (.seq (some nm1) (.seq none .d (.block (.loop nm2 .d))) .d)) nmR [4] [] [(.int .i64 n),(.lst .int l)]=f0 n l:=T0 n l
theorem loop (x:Int) (l:List Int) (hl:l.length≤1000):∀ (n i:Nat),l.length < n+i→i≤l.length→f2 n x l l (Int.ofNat l.length) (i:Int)=some (.int .i64 (gr x i (l.drop i)),[]):=by
  intro n
  induction n with
  | zero=>intro i h1 h2; omega
  | succ n ih =>
    intro i h1 h2
    show sh2 x l l (Int.ofNat l.length) i f1 (f2 n)=_
    unfold sh2
    by_cases hi:i < l.length
    · rw [iltT (by simp; omega), inbT hi, toNat_nat, getD_lt hi, drop_lt hi, wrapS i (by omega)]
      simp only [gr]
      cases ilt x l[i]
      · exact ih (i+1) (by omega) (by omega)
      · rfl
    · have : i = l.length := by omega
      subst this
      rw [iltF (by simp),List.drop_length]
      show some (AV.int IntKind.i64 (IntKind.wrap .i64 ((l.length:Int)+1)),[])=_
      rw [wrapS _ (by omega)]
      rfl
theorem f0_eq (x:Int) (l:List Int) (h:nle l.length 1000=true):f0 x l=some (.int .i64 (gradeZ x l),[]):=by
  have hl:l.length≤1000:=of_decide_eq_true h
  exact loop x l hl 100000 0 (by omega) (by omega)
theorem ok:CtxOk Tryz.prog X:=ctxOk tab spN dpN
theorem okM:MOk Tryz.prog X:=fun g sp h=>by cases h
theorem spec (n:Int) (l:List Int) (h:(nle (List.length l) 1000)=true):CallSpec Tryz.prog E 36 [(.int .i64 n),(.lst .int l)] (.int .i64 (gradeZ n l)) [] :=
  runFn_sound ok okM Tryz.call36 Tryz.func36 (by kernel_rfl) (by kernel_rfl) (by kernel_rfl) (by show 2≤23; decide) (by decide) (by rfl) ((run n l).trans (f0_eq n l h))
noncomputable def sp:Sp U El:=fun args k=>match args with
  | [.int .i64 n,.lst .int l]=>chk (nle (List.length l) 1000) (k (.int .i64 (gradeZ n l)) [])
  | _=>none
theorem spOk:SpOk Tryz.prog E 36 sp where
  det:=fun vs=>by
    unfold sp
    split
    · exact det_c _ _ _
    · exact ⟨none,fun _=>rfl⟩
  ok:=fun vs k r h=>by
    unfold sp at h
    split at h
    · obtain ⟨h1, h2⟩ := chk_some h
      exact ⟨_,_,spec _ _ h1,h2⟩
    · cases h
end grade
namespace score
noncomputable def bd:Code:=(Tryz.f15.body).getD .skip
noncomputable def X:Ctx U El:=⟨E,tds,zeros,eqs,specOf [(10,valid.sp),(34,total.sp)],100000,12,dspecOf [],fun _=>none⟩
noncomputable def nmR:Norm U:=⟨[],[4,5],[],[],[],[],[]⟩
noncomputable def RR:Kont U El:=fun st=>normK nmR st (retFin [4,5] [])
noncomputable def fr0 (l:List Df) (L:Int):St U El:=⟨[(0,(.lst .df l)),(1,(.int .i64 L))],[]⟩
noncomputable def sh0 (l:List Df) (L:Int):R :=
  condB (!(validB L l)) (some ((.tup [(.int .i64 (0:Int)),(.int .i64 (1:Int))]),[])) (chk (okL l) (some ((.tup [(.int .i64 (totZ l)),(.int .i64 (0:Int))]),[])))
theorem P0 (l L):exec X (cdp [] bd) .d (fr0 l L) RR (fun _ _=>none) RR=sh0 l L:=by kernel_rfl
noncomputable def f0 (l:List Df) (L:Int):R:=sh0 l L
theorem T0 (l L):exec X bd .d (fr0 l L) RR (fun _ _=>none) RR=f0 l L:=by
  refine (P0 l L).trans ?_
  show _=sh0 l L
  rfl
theorem run (l L):runFn X bd .d nmR [4,5] [] [(.lst .df l),(.int .i64 L)]=f0 l L:=T0 l L
theorem f0_eq (l:List Df) (L:Int):f0 l L=some (.tup [.int .i64 (scoreZ L l),.int .i64 (scoreE L l)],[]):=by
  unfold f0 sh0 scoreZ scoreE
  cases h:validB L l
  · rfl
  · rw [(valid_okL h).1]; rfl
theorem ok:CtxOk Tryz.prog X:=ctxOk tab (spC valid.spOk (spC total.spOk spN)) dpN
theorem okM:MOk Tryz.prog X:=fun g sp h=>by cases h
theorem spec (l:List Df) (L:Int):CallSpec Tryz.prog E 15 [(.lst .df l),(.int .i64 L)] (.tup [(.int .i64 (scoreZ L l)),(.int .i64 (scoreE L l))]) [] :=
  runFn_sound ok okM Tryz.call15 Tryz.func15 (by kernel_rfl) (by kernel_rfl) (by kernel_rfl) (by show 2≤12; decide) (by decide) (by rfl) ((run l L).trans (f0_eq l L))
noncomputable def sp:Sp U El:=fun args k=>match args with
  | [.lst .df l,.int .i64 L]=>k (.tup [(.int .i64 (scoreZ L l)),(.int .i64 (scoreE L l))]) []
  | _=>none
theorem spOk:SpOk Tryz.prog E 15 sp where
  det:=fun vs=>by
    unfold sp
    split
    · exact ⟨some (_,_),fun _=>rfl⟩
    · exact ⟨none,fun _=>rfl⟩
  ok:=fun vs k r h=>by
    unfold sp at h
    split at h
    · exact ⟨_,_,spec _ _,h⟩
    · cases h
end score
namespace gradeF
noncomputable def bd:Code:=(Tryz.f16.body).getD .skip
noncomputable def X:Ctx U El:=⟨E,tds,zeros,eqs,specOf [(10,valid.sp),(34,total.sp),(35,weight.sp),(36,grade.sp)],100000,35,dspecOf [],fun _=>none⟩
noncomputable def nmR:Norm U:=⟨[],[4,5],[],[],[],[],[]⟩
noncomputable def RR:Kont U El:=fun st=>normK nmR st (retFin [4,5] [])
noncomputable def nm1:Norm U:=⟨[],[0,1,6],[],[],[],[],[]⟩
noncomputable def nm2:Norm U:=⟨[],[0,1,6,13,14,15],[],[],[],[],[]⟩
abbrev Y1:=(List Df)→Int→Int→R
abbrev Y2:=(List Df)→Int→Int→(List Df)→Int→Int→R
noncomputable def fr0 (l:List Df) (L:Int):St U El:=⟨[(0,(.lst .df l)),(1,(.int .i64 L))],[]⟩
noncomputable def fr1 (l0:List Df) (aA:Int) (cA:Int):St U El:=⟨[(0,(.lst .df l0)),(1,(.int .i64 aA)),(6,(.int .i64 cA))],[]⟩
noncomputable def fr2 (l0:List Df) (aA:Int) (cA:Int) (fA:List Df) (gA:Int) (eA:Int):St U El:=⟨[(0,(.lst .df l0)),(1,(.int .i64 aA)),(6,(.int .i64 cA)),(13,(.lst .df fA)),(14,(.int .i64 gA)),(15,(.int .i64 eA))],[]⟩
noncomputable def sh0 (l:List Df) (L:Int) (k2:Y2):R :=
  condB (!(validB L l)) (some ((.tup [(.int .i64 (0:Int)),(.int .i64 (1:Int))]),[])) (k2 l L (0:Int) l (Int.ofNat (List.length l)) (0:Int))
noncomputable def sh1 (l0:List Df) (aA:Int) (cA:Int):R :=
  chk (nle (List.length ([(10:Int),(40:Int),(80:Int),(160:Int)]:List Int)) 1000) (chk (okL l0) (chk (aA != 0) (chk (nle (List.length ([(5:Int),(20:Int),(50:Int),(100:Int)]:List Int)) 1000) (some ((.tup [(.int .i64 (bif ilt (gradeZ cA ([(10:Int),(40:Int),(80:Int),(160:Int)]:List Int)) (gradeZ (IntKind.wrap .i64 (Int.tdiv (IntKind.wrap .i64 ((1000:Int) * (totZ l0))) aA)) ([(5:Int),(20:Int),(50:Int),(100:Int)]:List Int)) then (gradeZ (IntKind.wrap .i64 (Int.tdiv (IntKind.wrap .i64 ((1000:Int) * (totZ l0))) aA)) ([(5:Int),(20:Int),(50:Int),(100:Int)]:List Int)) else (gradeZ cA ([(10:Int),(40:Int),(80:Int),(160:Int)]:List Int)))),(.int .i64 (0:Int))]),[])))))
noncomputable def sh2 (l0:List Df) (aA:Int) (cA:Int) (fA:List Df) (gA:Int) (eA:Int) (k1:Y1) (k2:Y2):R :=
  condB (ilt eA gA) (chk (inb eA (List.length fA)) (chk (okD (List.getD fA (Int.toNat eA) d_df)) (k2 l0 aA (bif ilt cA (weightZ (List.getD fA (Int.toNat eA) d_df)) then (weightZ (List.getD fA (Int.toNat eA) d_df)) else cA) fA gA (IntKind.wrap .i64 (eA+(1:Int)))))) (k1 l0 aA cA)
noncomputable def it2 (Kb1:Kont U El) (n:Nat):Kont U El:=iter nm2 (fun st' K'=>exec X (cdp [1,1,1,0,1,0,0] bd) .d st' K' (Eblk 0 (cutK nm1 Kb1) (fun _ _=>none)) RR) n
noncomputable def ct1:Kont U El:=fun st=>exec X (cdp [1,1,1,1] bd) .d st RR (fun _ _=>none) RR
theorem P0 (l L):exec X (cdp [] bd) (.seq none .d (.seq none .d (.seq none .d (.seq (some nm1) (.seq none .d (.block (.loop nm2 .d))) .d)))) (fr0 l L) RR (fun _ _=>none) RR=sh0 l L (fun y0 y1 y2 y3 y4 y5=>(hid (it2 (hid ct1) 100000)) (fr2 y0 y1 y2 y3 y4 y5)):=by kernel_rfl
theorem P1 (l0 aA cA):ct1 (fr1 l0 aA cA)=sh1 l0 aA cA:=by kernel_rfl
theorem P2 (l0 aA cA fA gA eA) (Kb1 Kb2:Kont U El):exec X (cdp [1,1,1,0,1,0,0] bd) .d (fr2 l0 aA cA fA gA eA) (cutK nm2 Kb2) (Eblk 0 (cutK nm1 Kb1) (fun _ _=>none)) RR=sh2 l0 aA cA fA gA eA (fun y0 y1 y2=>Kb1 (fr1 y0 y1 y2)) (fun y0 y1 y2 y3 y4 y5=>Kb2 (fr2 y0 y1 y2 y3 y4 y5)):=by kernel_rfl
noncomputable def f1 (l0:List Df) (aA:Int) (cA:Int):R:=sh1 l0 aA cA
noncomputable def f2:Nat→Y2
  | 0=>fun _ _ _ _ _ _=>none
  | n+1=>fun l0 aA cA fA gA eA=>sh2 l0 aA cA fA gA eA f1 (f2 n)
noncomputable def f0 (l:List Df) (L:Int):R:=sh0 l L (f2 100000)
theorem T1 (l0 aA cA):(hid ct1) (fr1 l0 aA cA)=f1 l0 aA cA:=by
  refine (congrFun (hid_eq _) _).trans <| (P1 l0 aA cA).trans ?_
  show _=sh1 l0 aA cA
  rfl
theorem T2:∀ (n:Nat),∀ l0 aA cA fA gA eA,it2 (hid ct1) n (fr2 l0 aA cA fA gA eA)=f2 n l0 aA cA fA gA eA:=by
  intro n
  induction n with
  | zero=>intros; rfl
  | succ n ih =>
    intro l0 aA cA fA gA eA
    refine (P2 l0 aA cA fA gA eA (hid ct1) (it2 (hid ct1) n)).trans ?_
    show _=sh2 l0 aA cA fA gA eA f1 (f2 n)
    simp only [T1,ih]
theorem H2 (l0 aA cA fA gA eA):hid (it2 (hid ct1) 100000) (fr2 l0 aA cA fA gA eA)=f2 100000 l0 aA cA fA gA eA:=(congrFun (hid_eq _) _).trans (T2 100000 l0 aA cA fA gA eA)
theorem T0 (l L):exec X bd (.seq none .d (.seq none .d (.seq none .d (.seq (some nm1) (.seq none .d (.block (.loop nm2 .d))) .d)))) (fr0 l L) RR (fun _ _=>none) RR=f0 l L:=by
  refine (P0 l L).trans ?_
  show _=sh0 l L (f2 100000)
  simp only [H2]
theorem run (l L):runFn X bd (.seq none .d (.seq none .d (.seq none .d (.seq (some nm1) (.seq none .d (.block (.loop nm2 .d))) .d)))) nmR [4,5] [] [(.lst .df l),(.int .i64 L)]=f0 l L:=T0 l L
theorem loop (l:List Df) (L:Int) (h:okL l=true) (hL:pos16 L=true):∀ (n i:Nat) (w:Int),l.length < n+i→i≤l.length→f2 n l L w l (Int.ofNat l.length) (i:Int)=f1 l L (worstZ w (l.drop i)):=by
  have hl:=okL_len h
  intro n
  induction n with
  | zero=>intro i s h1 h2; omega
  | succ n ih =>
    intro i w h1 h2
    show sh2 l L w l (Int.ofNat l.length) i f1 (f2 n)=_
    unfold sh2
    by_cases hi:i < l.length
    · have hd := okL_at h hi
      rw [iltT (by simp; omega),inbT hi,toNat_nat,getD_lt hi,hd,drop_lt hi,wrapS i (by omega)]
      exact ih (i+1) _ (by omega) (by omega)
    · have : i = l.length := by omega
      subst this
      rw [iltF (by simp),List.drop_length]
      rfl
theorem f0_eq (l:List Df) (L:Int):f0 l L=some (.tup [.int .i64 (gradeF L l),.int .i64 (scoreE L l)],[]):=by
  unfold f0 sh0 gradeF scoreE
  cases h:validB L l
  · rfl
  · obtain ⟨h1, h2⟩ := valid_okL h
    have hl:=okL_len h1
    refine (loop l L h1 h2 100000 0 0 (by omega) (by omega)).trans ?_
    obtain ⟨e1,e2⟩:=rgrade.tail l L h1 h2 0
    unfold f1 sh1
    rw [e1,e2,h1,grade_step _ _ _ _ _ (by decide) (by decide) (by decide),grade_step _ _ _ _ _ (by decide) (by decide) (by decide)]
    rfl
theorem ok:CtxOk Tryz.prog X:=ctxOk tab (spC valid.spOk (spC total.spOk (spC weight.spOk (spC grade.spOk spN)))) dpN
theorem okM:MOk Tryz.prog X:=fun g sp h=>by cases h
theorem spec (l:List Df) (L:Int):CallSpec Tryz.prog E 16 [(.lst .df l),(.int .i64 L)] (.tup [(.int .i64 (gradeF L l)),(.int .i64 (scoreE L l))]) [] :=
  runFn_sound ok okM Tryz.call16 Tryz.func16 (by kernel_rfl) (by kernel_rfl) (by kernel_rfl) (by show 2≤35; decide) (by decide) (by rfl) ((run l L).trans (f0_eq l L))
noncomputable def sp:Sp U El:=fun args k=>match args with
  | [.lst .df l,.int .i64 L]=>k (.tup [(.int .i64 (gradeF L l)),(.int .i64 (scoreE L l))]) []
  | _=>none
theorem spOk:SpOk Tryz.prog E 16 sp where
  det:=fun vs=>by
    unfold sp
    split
    · exact ⟨some (_,_),fun _=>rfl⟩
    · exact ⟨none,fun _=>rfl⟩
  ok:=fun vs k r h=>by
    unfold sp at h
    split at h
    · exact ⟨_,_,spec _ _,h⟩
    · cases h
end gradeF
end Go.Proofs.YtnhmhcobpbilhaaGreatDoor
