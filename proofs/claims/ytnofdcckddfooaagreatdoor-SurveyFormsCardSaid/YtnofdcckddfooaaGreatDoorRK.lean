/- Same surfaces, and the law SurveyForms' own run. -/
import Derived.Test.YtnofdcckddfooaaGreatDoorRH
import Derived.Test.YtnofdcckddfooaaGreatDoorAW
namespace Go.Proofs.YtnofdcckddfooaaGreatDoor
set_option linter.unusedSectionVars false
set_option linter.unusedSimpArgs false
set_option linter.unusedVariables false
set_option maxRecDepth 100000
noncomputable def eqSp (a b:List Spot):Bool:=@decide (a=b) (Classical.propDecidable _)
noncomputable def eqFc (a b:List Face):Bool:=@decide (a=b) (Classical.propDecidable _)
theorem eqSp_T {a b:List Spot} (h:a=b):eqSp a b=true:=@decide_eq_true _ (Classical.propDecidable _) h
theorem eqSp_F {a b:List Spot} (h:a≠b):eqSp a b=false:=@decide_eq_false _ (Classical.propDecidable _) h
theorem eqFc_T {a b:List Face} (h:a=b):eqFc a b=true:=@decide_eq_true _ (Classical.propDecidable _) h
theorem eqFc_F {a b:List Face} (h:a≠b):eqFc a b=false:=@decide_eq_false _ (Classical.propDecidable _) h
theorem eqSp_cons (x y : Spot) (a b : List Spot) : eqSp (x :: a) (y :: b) = bif !((x.px == y.px) && ((x.py == y.py) && ((x.pz == y.pz) && true))) then false else eqSp a b := by
  by_cases h:x=y
  · subst h
    simp only [beq_self_eq_true,Bool.and_self,Bool.not_true,cond_false]
    by_cases k:a=b
    · subst k; rw [eqSp_T rfl,eqSp_T rfl]
    · rw [eqSp_F k,eqSp_F (fun e=>k (List.cons.inj e).2)]
  · have : ((x.px == y.px) && ((x.py == y.py) && ((x.pz == y.pz) && true))) = false := by
      cases hc:((x.px == y.px)&&((x.py == y.py)&&((x.pz == y.pz)&&true))) with
      | false=>rfl
      | true =>
        simp only [Bool.and_true,Bool.and_eq_true,beq_iff_eq] at hc
        exfalso; apply h
        cases x; cases y; simp_all
    rw [this,Bool.not_false,cond_true]
    exact eqSp_F fun e=>h (List.cons.inj e).1
theorem eqFc_cons (x y : Face) (a b : List Face) : eqFc (x :: a) (y :: b) = bif !((x.fa == y.fa) && ((x.fb == y.fb) && ((x.fc == y.fc) && ((x.fk == y.fk) && true)))) then false else eqFc a b := by
  by_cases h:x=y
  · subst h
    simp only [beq_self_eq_true,Bool.and_self,Bool.not_true,cond_false]
    by_cases k:a=b
    · subst k; rw [eqFc_T rfl,eqFc_T rfl]
    · rw [eqFc_F k,eqFc_F (fun e=>k (List.cons.inj e).2)]
  · have : ((x.fa == y.fa) && ((x.fb == y.fb) && ((x.fc == y.fc) && ((x.fk == y.fk) && true)))) = false := by
      cases hc:((x.fa == y.fa)&&((x.fb == y.fb)&&((x.fc == y.fc)&&((x.fk == y.fk)&&true)))) with
      | false=>rfl
      | true =>
        simp only [Bool.and_true,Bool.and_eq_true,beq_iff_eq] at hc
        exfalso; apply h
        cases x; cases y; simp_all
    rw [this,Bool.not_false,cond_true]
    exact eqFc_F fun e=>h (List.cons.inj e).1
namespace equalS
noncomputable def bd:Code:=(Tryz.f50.body).getD .skip
noncomputable def X:Ctx U El:=⟨E,tds,zeros,eqs,specOf [],100000,26,dspecOf [],fun _=>none⟩
noncomputable def nmR:Norm U:=⟨[],[4],[],[],[],[],[]⟩
noncomputable def RR:Kont U El:=fun st=>normK nmR st (retFin [4] [])
noncomputable def nm1:Norm U:=⟨[],[],[],[],[],[],[]⟩
noncomputable def nm2:Norm U:=⟨[],[0,1,12,13],[],[],[],[],[]⟩
abbrev Y1:=R
abbrev Y2:=(List Spot)→(List Spot)→Int→Int→R
noncomputable def fr0 (a:List Spot) (b:List Spot):St U El:=⟨[(0,(.lst .spot a)),(1,(.lst .spot b))],[]⟩
noncomputable def fr1:St U El:=⟨[],[]⟩
noncomputable def fr2 (fA:List Spot) (gA:List Spot) (iA:Int) (eA:Int):St U El:=⟨[(0,(.lst .spot fA)),(1,(.lst .spot gA)),(12,(.int .i64 iA)),(13,(.int .i64 eA))],[]⟩
noncomputable def sh0 (a:List Spot) (b:List Spot) (k2:Y2):R :=
  condB ((Int.ofNat (List.length a)) != (Int.ofNat (List.length b))) (some ((.bool false),[])) (k2 a b (Int.ofNat (List.length a)) (0:Int))
noncomputable def sh1:R :=
  some ((.bool true),[])
noncomputable def sh2 (fA:List Spot) (gA:List Spot) (iA:Int) (eA:Int) (k1:Y1) (k2:Y2):R :=
  condB (ilt eA iA) (chk (inb eA (List.length fA)) (chk (inb eA (List.length gA)) (condB (!(((List.getD fA (Int.toNat eA) d_spot).px == (List.getD gA (Int.toNat eA) d_spot).px)&&(((List.getD fA (Int.toNat eA) d_spot).py == (List.getD gA (Int.toNat eA) d_spot).py)&&(((List.getD fA (Int.toNat eA) d_spot).pz == (List.getD gA (Int.toNat eA) d_spot).pz)&&true)))) (some ((.bool false),[])) (k2 fA gA iA (IntKind.wrap .i64 (eA+(1:Int))))))) (k1)
noncomputable def it2 (Kb1:Kont U El) (n:Nat):Kont U El:=iter nm2 (fun st' K'=>exec X (cdp [1,1,0,1,0,0] bd) .d st' K' (Eblk 0 (cutK nm1 Kb1) (fun _ _=>none)) RR) n
noncomputable def ct1:Kont U El:=fun st=>exec X (cdp [1,1,1] bd) .d st RR (fun _ _=>none) RR
theorem P0 (a b):exec X (cdp [] bd) (.seq none .d (.seq none .d (.seq (some nm1) (.seq none .d (.block (.loop nm2 .d))) .d))) (fr0 a b) RR (fun _ _=>none) RR=sh0 a b (fun y0 y1 y2 y3=>(hid (it2 (hid ct1) 100000)) (fr2 y0 y1 y2 y3)):=by kernel_rfl
theorem P1:ct1 (fr1)=sh1:=by kernel_rfl
theorem P2 (fA gA iA eA) (Kb1 Kb2:Kont U El):exec X (cdp [1,1,0,1,0,0] bd) .d (fr2 fA gA iA eA) (cutK nm2 Kb2) (Eblk 0 (cutK nm1 Kb1) (fun _ _=>none)) RR=sh2 fA gA iA eA (Kb1 (fr1)) (fun y0 y1 y2 y3=>Kb2 (fr2 y0 y1 y2 y3)):=by kernel_rfl
noncomputable def f1:R:=sh1
noncomputable def f2:Nat→Y2
  | 0=>fun _ _ _ _=>none
  | n+1=>fun fA gA iA eA=>sh2 fA gA iA eA f1 (f2 n)
noncomputable def f0 (a:List Spot) (b:List Spot):R:=sh0 a b (f2 100000)
theorem T1:(hid ct1) (fr1)=f1:=by
  refine (congrFun (hid_eq _) _).trans <| (P1).trans ?_
  show _=sh1
  rfl
theorem T2:∀ (n:Nat),∀ fA gA iA eA,it2 (hid ct1) n (fr2 fA gA iA eA)=f2 n fA gA iA eA:=by
  intro n
  induction n with
  | zero=>intros; rfl
  | succ n ih =>
    intro fA gA iA eA
    refine (P2 fA gA iA eA (hid ct1) (it2 (hid ct1) n)).trans ?_
    show _=sh2 fA gA iA eA f1 (f2 n)
    simp only [T1,ih]
theorem H2 (fA gA iA eA):hid (it2 (hid ct1) 100000) (fr2 fA gA iA eA)=f2 100000 fA gA iA eA:=(congrFun (hid_eq _) _).trans (T2 100000 fA gA iA eA)
theorem T0 (a b):exec X bd (.seq none .d (.seq none .d (.seq (some nm1) (.seq none .d (.block (.loop nm2 .d))) .d))) (fr0 a b) RR (fun _ _=>none) RR=f0 a b:=by
  refine (P0 a b).trans ?_
  show _=sh0 a b (f2 100000)
  simp only [H2]
theorem run (a b):runFn X bd (.seq none .d (.seq none .d (.seq (some nm1) (.seq none .d (.block (.loop nm2 .d))) .d))) nmR [4] [] [(.lst .spot a),(.lst .spot b)]=f0 a b:=T0 a b
theorem loop (a b:List Spot) (hl:a.length≤90000) (he:a.length=b.length):∀ (n i:Nat),a.length < n+i→i≤a.length→f2 n a b (Int.ofNat a.length) (i:Int)=outB (eqSp (a.drop i) (b.drop i)):=by
  intro n
  induction n with
  | zero=>intro i h1 h2; omega
  | succ n ih =>
    intro i h1 h2
    show sh2 a b (Int.ofNat a.length) i f1 (f2 n)=_
    unfold sh2
    by_cases hi:i < a.length
    · have hi' : i < b.length := by omega
      rw [iltT (by simp; omega),inbT hi,inbT hi',toNat_nat,getD_lt hi,getD_lt hi',drop_lt hi,drop_lt hi',wrapS i (by omega),eqSp_cons,chkT,chkT,condT,ih (i+1) (by omega) hi]
      generalize (!((a[i].px == b[i].px)&&((a[i].py == b[i].py)&&((a[i].pz == b[i].pz)&&true))))=q
      cases q<;>rfl
    · have : i = a.length := by omega
      subst this
      rw [iltF (by simp),List.drop_length,he,List.drop_length,eqSp_T rfl]
      rfl
theorem f0_eq (a b:List Spot) (h:nle (List.length a) 90000=true):f0 a b=outB (eqSp a b):=by
  have hl:a.length≤90000:=nleI h
  show sh0 a b (f2 100000)=_
  unfold sh0
  cases hb:(Int.ofNat a.length) != (Int.ofNat b.length) with
  | false =>
    have he:a.length=b.length:=by
      have:(Int.ofNat a.length)=(Int.ofNat b.length):=by simpa using hb
      exact Int.ofNat.inj this
    exact loop a b hl he 100000 0 (by omega) (by omega)
  | true =>
    rw [eqSp_F fun e => ?_]
    · rfl
    · subst e; simp at hb
theorem ok:CtxOk Tryz.prog X:=ctxOk tab spN dpN
theorem okM:MOk Tryz.prog X:=fun g sp h=>by cases h
theorem spec (a:List Spot) (b:List Spot) (h:(nle (List.length a) 90000)=true):CallSpec Tryz.prog E 50 [(.lst .spot a),(.lst .spot b)] (.bool (eqSp a b)) [] :=
  runFn_sound ok okM Tryz.call50 Tryz.func50 (by kernel_rfl) (by kernel_rfl) (by kernel_rfl) (by show 2≤26; decide) (by decide) (by rfl) ((run a b).trans (f0_eq a b h))
noncomputable def sp:Sp U El:=fun args k=>match args with
  | [.lst .spot a,.lst .spot b]=>chk (nle (List.length a) 90000) (k (.bool (eqSp a b)) [])
  | _=>none
theorem spOk:SpOk Tryz.prog E 50 sp where
  det:=fun vs=>by
    unfold sp
    split
    · exact det_c _ _ _
    · exact ⟨none,fun _=>rfl⟩
  ok:=fun vs k r h=>by
    unfold sp at h
    split at h
    · obtain ⟨h1, h2⟩ := chk_some h
      exact ⟨_,_,spec _ _ h1,h2⟩
    · cases h
end equalS
namespace equalF
noncomputable def bd:Code:=(Tryz.f51.body).getD .skip
noncomputable def X:Ctx U El:=⟨E,tds,zeros,eqs,specOf [],100000,26,dspecOf [],fun _=>none⟩
noncomputable def nmR:Norm U:=⟨[],[4],[],[],[],[],[]⟩
noncomputable def RR:Kont U El:=fun st=>normK nmR st (retFin [4] [])
noncomputable def nm1:Norm U:=⟨[],[],[],[],[],[],[]⟩
noncomputable def nm2:Norm U:=⟨[],[0,1,12,13],[],[],[],[],[]⟩
abbrev Y1:=R
abbrev Y2:=(List Face)→(List Face)→Int→Int→R
noncomputable def fr0 (a:List Face) (b:List Face):St U El:=⟨[(0,(.lst .face a)),(1,(.lst .face b))],[]⟩
noncomputable def fr1:St U El:=⟨[],[]⟩
noncomputable def fr2 (fA:List Face) (gA:List Face) (iA:Int) (eA:Int):St U El:=⟨[(0,(.lst .face fA)),(1,(.lst .face gA)),(12,(.int .i64 iA)),(13,(.int .i64 eA))],[]⟩
noncomputable def sh0 (a:List Face) (b:List Face) (k2:Y2):R :=
  condB ((Int.ofNat (List.length a)) != (Int.ofNat (List.length b))) (some ((.bool false),[])) (k2 a b (Int.ofNat (List.length a)) (0:Int))
noncomputable def sh1:R :=
  some ((.bool true),[])
noncomputable def sh2 (fA:List Face) (gA:List Face) (iA:Int) (eA:Int) (k1:Y1) (k2:Y2):R :=
  condB (ilt eA iA) (chk (inb eA (List.length fA)) (chk (inb eA (List.length gA)) (condB (!(((List.getD fA (Int.toNat eA) d_face).fa == (List.getD gA (Int.toNat eA) d_face).fa)&&(((List.getD fA (Int.toNat eA) d_face).fb == (List.getD gA (Int.toNat eA) d_face).fb)&&(((List.getD fA (Int.toNat eA) d_face).fc == (List.getD gA (Int.toNat eA) d_face).fc)&&(((List.getD fA (Int.toNat eA) d_face).fk == (List.getD gA (Int.toNat eA) d_face).fk)&&true))))) (some ((.bool false),[])) (k2 fA gA iA (IntKind.wrap .i64 (eA+(1:Int))))))) (k1)
noncomputable def it2 (Kb1:Kont U El) (n:Nat):Kont U El:=iter nm2 (fun st' K'=>exec X (cdp [1,1,0,1,0,0] bd) .d st' K' (Eblk 0 (cutK nm1 Kb1) (fun _ _=>none)) RR) n
noncomputable def ct1:Kont U El:=fun st=>exec X (cdp [1,1,1] bd) .d st RR (fun _ _=>none) RR
theorem P0 (a b):exec X (cdp [] bd) (.seq none .d (.seq none .d (.seq (some nm1) (.seq none .d (.block (.loop nm2 .d))) .d))) (fr0 a b) RR (fun _ _=>none) RR=sh0 a b (fun y0 y1 y2 y3=>(hid (it2 (hid ct1) 100000)) (fr2 y0 y1 y2 y3)):=by kernel_rfl
theorem P1:ct1 (fr1)=sh1:=by kernel_rfl
theorem P2 (fA gA iA eA) (Kb1 Kb2:Kont U El):exec X (cdp [1,1,0,1,0,0] bd) .d (fr2 fA gA iA eA) (cutK nm2 Kb2) (Eblk 0 (cutK nm1 Kb1) (fun _ _=>none)) RR=sh2 fA gA iA eA (Kb1 (fr1)) (fun y0 y1 y2 y3=>Kb2 (fr2 y0 y1 y2 y3)):=by kernel_rfl
noncomputable def f1:R:=sh1
noncomputable def f2:Nat→Y2
  | 0=>fun _ _ _ _=>none
  | n+1=>fun fA gA iA eA=>sh2 fA gA iA eA f1 (f2 n)
noncomputable def f0 (a:List Face) (b:List Face):R:=sh0 a b (f2 100000)
theorem T1:(hid ct1) (fr1)=f1:=by
  refine (congrFun (hid_eq _) _).trans <| (P1).trans ?_
  show _=sh1
  rfl
theorem T2:∀ (n:Nat),∀ fA gA iA eA,it2 (hid ct1) n (fr2 fA gA iA eA)=f2 n fA gA iA eA:=by
  intro n
  induction n with
  | zero=>intros; rfl
  | succ n ih =>
    intro fA gA iA eA
    refine (P2 fA gA iA eA (hid ct1) (it2 (hid ct1) n)).trans ?_
    show _=sh2 fA gA iA eA f1 (f2 n)
    simp only [T1,ih]
theorem H2 (fA gA iA eA):hid (it2 (hid ct1) 100000) (fr2 fA gA iA eA)=f2 100000 fA gA iA eA:=(congrFun (hid_eq _) _).trans (T2 100000 fA gA iA eA)
theorem T0 (a b):exec X bd (.seq none .d (.seq none .d (.seq (some nm1) (.seq none .d (.block (.loop nm2 .d))) .d))) (fr0 a b) RR (fun _ _=>none) RR=f0 a b:=by
  refine (P0 a b).trans ?_
  show _=sh0 a b (f2 100000)
  simp only [H2]
theorem run (a b):runFn X bd (.seq none .d (.seq none .d (.seq (some nm1) (.seq none .d (.block (.loop nm2 .d))) .d))) nmR [4] [] [(.lst .face a),(.lst .face b)]=f0 a b:=T0 a b
theorem loop (a b:List Face) (hl:a.length≤90000) (he:a.length=b.length):∀ (n i:Nat),a.length < n+i→i≤a.length→f2 n a b (Int.ofNat a.length) (i:Int)=outB (eqFc (a.drop i) (b.drop i)):=by
  intro n
  induction n with
  | zero=>intro i h1 h2; omega
  | succ n ih =>
    intro i h1 h2
    show sh2 a b (Int.ofNat a.length) i f1 (f2 n)=_
    unfold sh2
    by_cases hi:i < a.length
    · have hi' : i < b.length := by omega
      rw [iltT (by simp; omega),inbT hi,inbT hi',toNat_nat,getD_lt hi,getD_lt hi',drop_lt hi,drop_lt hi',wrapS i (by omega),eqFc_cons,chkT,chkT,condT,ih (i+1) (by omega) hi]
      generalize (!((a[i].fa == b[i].fa)&&((a[i].fb == b[i].fb)&&((a[i].fc == b[i].fc)&&((a[i].fk == b[i].fk)&&true)))))=q
      cases q<;>rfl
    · have : i = a.length := by omega
      subst this
      rw [iltF (by simp),List.drop_length,he,List.drop_length,eqFc_T rfl]
      rfl
theorem f0_eq (a b:List Face) (h:nle (List.length a) 90000=true):f0 a b=outB (eqFc a b):=by
  have hl:a.length≤90000:=nleI h
  show sh0 a b (f2 100000)=_
  unfold sh0
  cases hb:(Int.ofNat a.length) != (Int.ofNat b.length) with
  | false =>
    have he:a.length=b.length:=by
      have:(Int.ofNat a.length)=(Int.ofNat b.length):=by simpa using hb
      exact Int.ofNat.inj this
    exact loop a b hl he 100000 0 (by omega) (by omega)
  | true =>
    rw [eqFc_F fun e => ?_]
    · rfl
    · subst e; simp at hb
theorem ok:CtxOk Tryz.prog X:=ctxOk tab spN dpN
theorem okM:MOk Tryz.prog X:=fun g sp h=>by cases h
theorem spec (a:List Face) (b:List Face) (h:(nle (List.length a) 90000)=true):CallSpec Tryz.prog E 51 [(.lst .face a),(.lst .face b)] (.bool (eqFc a b)) [] :=
  runFn_sound ok okM Tryz.call51 Tryz.func51 (by kernel_rfl) (by kernel_rfl) (by kernel_rfl) (by show 2≤26; decide) (by decide) (by rfl) ((run a b).trans (f0_eq a b h))
noncomputable def sp:Sp U El:=fun args k=>match args with
  | [.lst .face a,.lst .face b]=>chk (nle (List.length a) 90000) (k (.bool (eqFc a b)) [])
  | _=>none
theorem spOk:SpOk Tryz.prog E 51 sp where
  det:=fun vs=>by
    unfold sp
    split
    · exact det_c _ _ _
    · exact ⟨none,fun _=>rfl⟩
  ok:=fun vs k r h=>by
    unfold sp at h
    split at h
    · obtain ⟨h1, h2⟩ := chk_some h
      exact ⟨_,_,spec _ _ h1,h2⟩
    · cases h
end equalF
theorem same_parts (a b:Mesh):sameM a b=(eqSp a.ms b.ms&&eqFc a.mf b.mf):=by
  by_cases h:a=b
  · subst h
    rw [sameM_refl,eqSp_T rfl,eqFc_T rfl]
    rfl
  · rw [sameM_F h]
    by_cases h1:a.ms=b.ms
    · rw [eqSp_T h1, eqFc_F fun h2 => h (mesh_eq h1 h2)]
      rfl
    · rw [eqSp_F h1]
      rfl
theorem size_parts {m:Mesh} (h:sizeOk m=true):nle (List.length m.ms) 90000=true∧nle (List.length m.mf) 90000=true:=by
  unfold sizeOk at h
  rw [Bool.and_eq_true] at h
  exact h
namespace same
noncomputable def bd:Code:=(Tryz.f26.body).getD .skip
noncomputable def X:Ctx U El:=⟨E,tds,zeros,eqs,specOf [(34,valid.sp),(49,canon.sp),(50,equalS.sp),(51,equalF.sp)],100000,31,dspecOf [],fun _=>none⟩
noncomputable def nmR:Norm U:=⟨[],[4],[],[],[],[],[]⟩
noncomputable def RR:Kont U El:=fun st=>normK nmR st (retFin [4] [])
noncomputable def nm1:Norm U:=⟨[],[2,3],[2,3],[],[],[],[(2,0,.spot),(2,1,.face),(3,0,.spot),(3,1,.face)]⟩
abbrev Y1:=(List Spot)→(List Face)→(List Spot)→(List Face)→R
noncomputable def fr0 (a:Mesh) (b:Mesh):St U El:=⟨[(0,(.agg [(.lst .spot a.ms),(.lst .face a.mf)])),(1,(.agg [(.lst .spot b.ms),(.lst .face b.mf)]))],[]⟩
noncomputable def fr1 (aA:List Spot) (bA:List Face) (cA:List Spot) (dA:List Face):St U El:=⟨[(2,(.ptr 2 0)),(3,(.ptr 3 0))],[(2,(.box 0 [(.lst .spot aA),(.lst .face bA)])),(3,(.box 0 [(.lst .spot cA),(.lst .face dA)]))]⟩
noncomputable def sh0 (a:Mesh) (b:Mesh) (k1:Y1):R :=
  chk (sizeOk a) (condB (!(validM a)) (some ((.bool false),[])) (chk (sizeOk b) (condB (!(validM b)) (some ((.bool false),[])) (k1 a.ms a.mf b.ms b.mf))))
noncomputable def sh1 (aA:List Spot) (bA:List Face) (cA:List Spot) (dA:List Face):R :=
  chk (validM (⟨aA,bA⟩:Mesh)) (chk (validM (⟨cA,dA⟩:Mesh)) (chk (nle (List.length ((canM (⟨aA,bA⟩:Mesh)).ms)) 90000) (condB (eqSp ((canM (⟨aA,bA⟩:Mesh)).ms) ((canM (⟨cA,dA⟩:Mesh)).ms)) (chk (nle (List.length ((canM (⟨aA,bA⟩:Mesh)).mf)) 90000) (some ((.bool (eqFc ((canM (⟨aA,bA⟩:Mesh)).mf) ((canM (⟨cA,dA⟩:Mesh)).mf))),[]))) (some ((.bool false),[])))))
noncomputable def ct1:Kont U El:=fun st=>exec X (cdp [1,1] bd) (.seq none (.region [(6,5),(7,6)]) .d) st RR (fun _ _=>none) RR
theorem P0 (a b):exec X (cdp [] bd) (.seq none .d (.seq (some nm1) .d (.seq none (.region [(6,5),(7,6)]) .d))) (fr0 a b) RR (fun _ _=>none) RR=sh0 a b (fun y0 y1 y2 y3=>(hid ct1) (fr1 y0 y1 y2 y3)):=by kernel_rfl
theorem P1 (aA bA cA dA):ct1 (fr1 aA bA cA dA)=sh1 aA bA cA dA:=by kernel_rfl
noncomputable def f1 (aA:List Spot) (bA:List Face) (cA:List Spot) (dA:List Face):R:=sh1 aA bA cA dA
noncomputable def f0 (a:Mesh) (b:Mesh):R:=sh0 a b f1
theorem T1 (aA bA cA dA):(hid ct1) (fr1 aA bA cA dA)=f1 aA bA cA dA:=by
  refine (congrFun (hid_eq _) _).trans <| (P1 aA bA cA dA).trans ?_
  show _=sh1 aA bA cA dA
  rfl
theorem T0 (a b):exec X bd (.seq none .d (.seq (some nm1) .d (.seq none (.region [(6,5),(7,6)]) .d))) (fr0 a b) RR (fun _ _=>none) RR=f0 a b:=by
  refine (P0 a b).trans ?_
  show _=sh0 a b f1
  simp only [T1]
theorem run (a b):runFn X bd (.seq none .d (.seq (some nm1) .d (.seq none (.region [(6,5),(7,6)]) .d))) nmR [4] [] [(.agg [(.lst .spot a.ms),(.lst .face a.mf)]),(.agg [(.lst .spot b.ms),(.lst .face b.mf)])]=f0 a b:=T0 a b
theorem f0_eq (a b:Mesh) (h:(sizeOk a&&sizeOk b)=true):f0 a b=outB (sameC a b):=by
  rw [Bool.and_eq_true] at h
  show sh0 a b f1=_
  unfold sh0 sameC
  rw [h.1,h.2,chkT,chkT]
  cases ha:validM a with
  | false=>rfl
  | true =>
    cases hb:validM b with
    | false=>rfl
    | true =>
      show sh1 a.ms a.mf b.ms b.mf=_
      unfold sh1
      have hs:=size_parts (can_size ha)
      show chk (validM a) (chk (validM b) (chk (nle (List.length (canM a).ms) 90000) (condB (eqSp (canM a).ms (canM b).ms) (chk (nle (List.length (canM a).mf) 90000) (outB (eqFc (canM a).mf (canM b).mf))) (outB false))))=_
      rw [ha,hb,hs.1,hs.2,chkT,chkT,chkT,chkT]
      show _=outB (sameM (canM a) (canM b))
      rw [same_parts]
      exact cAnd outB _ _
theorem ok:CtxOk Tryz.prog X:=ctxOk tab (spC valid.spOk (spC canon.spOk (spC equalS.spOk (spC equalF.spOk spN)))) dpN
theorem okM:MOk Tryz.prog X:=fun g sp h=>by cases h
theorem spec (a:Mesh) (b:Mesh) (h:((sizeOk a&&sizeOk b))=true):CallSpec Tryz.prog E 26 [(.agg [(.lst .spot a.ms),(.lst .face a.mf)]),(.agg [(.lst .spot b.ms),(.lst .face b.mf)])] (.bool (sameC a b)) [] :=
  runFn_sound ok okM Tryz.call26 Tryz.func26 (by kernel_rfl) (by kernel_rfl) (by kernel_rfl) (by show 2≤31; decide) (by decide) (by rfl) ((run a b).trans (f0_eq a b h))
noncomputable def sp:Sp U El:=fun args k=>match args with
  | [.agg [.lst .spot a_ms,.lst .face a_mf],.agg [.lst .spot b_ms,.lst .face b_mf]]=>chk ((sizeOk (⟨a_ms,a_mf⟩:Mesh)&&sizeOk (⟨b_ms,b_mf⟩:Mesh))) (k (.bool (sameC (⟨a_ms,a_mf⟩:Mesh) (⟨b_ms,b_mf⟩:Mesh))) [])
  | _=>none
theorem spOk:SpOk Tryz.prog E 26 sp where
  det:=fun vs=>by
    unfold sp
    split
    · exact det_c _ _ _
    · exact ⟨none,fun _=>rfl⟩
  ok:=fun vs k r h=>by
    unfold sp at h
    split at h
    · obtain ⟨h1, h2⟩ := chk_some h
      exact ⟨_,_,spec ⟨_,_⟩ ⟨_,_⟩ h1,h2⟩
    · cases h
end same
namespace rsameN
def fixS:AV U El→AV U El
  | .nils => .lst .spot []
  | a=>a
def fixF:AV U El→AV U El
  | .nils => .lst .face []
  | a=>a
def fixM:AV U El→AV U El
  | .agg [a,b] => .agg [fixS a,fixF b]
  | a=>a
theorem rel_S {S:Nat→Prop} {ρ:Rho} {w:World} {a:AV U El} {v:Value} (h:Rel E S ρ w a v):Rel E S ρ w (fixS a) v:=by
  unfold fixS
  split
  · cases h; exact .lstE _ _ _
  · exact h
theorem rel_F {S:Nat→Prop} {ρ:Rho} {w:World} {a:AV U El} {v:Value} (h:Rel E S ρ w a v):Rel E S ρ w (fixF a) v:=by
  unfold fixF
  split
  · cases h; exact .lstE _ _ _
  · exact h
theorem rel_M {S:Nat→Prop} {ρ:Rho} {w:World} {a:AV U El} {v:Value} (h:Rel E S ρ w a v):Rel E S ρ w (fixM a) v:=by
  unfold fixM
  split
  · cases h with
    | agg _ vs hl hc =>
      refine .agg _ _ (by simpa using hl) fun i c v hi hv => ?_
      match i,hi,hv with
      | 0,hi,hv=>cases hi; exact rel_S (hc 0 _ v rfl hv)
      | 1,hi,hv=>cases hi; exact rel_F (hc 1 _ v rfl hv)
  · exact h
noncomputable def sp:Sp U El:=fun args k=>rsame.sp (args.map fixM) k
theorem spOk:SpOk Tryz.prog E 12 sp where
  det:=fun vs=>rsame.spOk.det (vs.map fixM)
  ok:=fun vs k r h=>by
    obtain ⟨res,ex,hc,hk⟩:=rsame.spOk.ok (vs.map fixM) k r h
    refine ⟨res,ex,⟨hc.1,hc.2.1,fun S w vals hlt hG hr=>hc.2.2 S w vals hlt hG ⟨by simpa using hr.1,fun i c v hi hv => ?_⟩⟩,hk⟩
    rw [List.getElem?_map,Option.map_eq_some_iff] at hi
    obtain ⟨c0,h0,rfl⟩:=hi
    exact rel_M (hr.2 i c0 v h0 hv)
end rsameN
namespace rsameC
noncomputable def bd:Code:=(Tryz.f27.body).getD .skip
noncomputable def X:Ctx U El:=⟨E,tds,zeros,eqs,specOf [(12,rsameN.sp),(14,rvalid.sp),(28,rcanon.sp)],100000,18,dspecOf [],fun _=>none⟩
noncomputable def nmR:Norm U:=⟨[],[4],[],[],[],[],[]⟩
noncomputable def RR:Kont U El:=fun st=>normK nmR st (retFin [4] [])
noncomputable def fr0 (a:Mesh) (b:Mesh):St U El:=⟨[(0,(.agg [(.lst .spot a.ms),(.lst .face a.mf)])),(1,(.agg [(.lst .spot b.ms),(.lst .face b.mf)]))],[]⟩
noncomputable def sh0 (a:Mesh) (b:Mesh):R :=
  chk (sizeOk a) (condB (validM a) (chk (sizeOk b) (condB (validM b) (chk (validM a) (chk (validM b) (chk ((sizeOk (canM a)&&sizeOk (canM b))) (some ((.bool (sameM (canM a) (canM b))),[]))))) (some ((.bool false),[])))) (some ((.bool false),[])))
theorem P0 (a b):exec X (cdp [] bd) .d (fr0 a b) RR (fun _ _=>none) RR=sh0 a b:=by kernel_rfl
noncomputable def f0 (a:Mesh) (b:Mesh):R:=sh0 a b
theorem T0 (a b):exec X bd .d (fr0 a b) RR (fun _ _=>none) RR=f0 a b:=by
  refine (P0 a b).trans ?_
  show _=sh0 a b
  rfl
theorem run (a b):runFn X bd .d nmR [4] [] [(.agg [(.lst .spot a.ms),(.lst .face a.mf)]),(.agg [(.lst .spot b.ms),(.lst .face b.mf)])]=f0 a b:=T0 a b
theorem f0_eq (a b:Mesh) (h:(sizeOk a&&sizeOk b)=true):f0 a b=outB (sameC a b):=by
  rw [Bool.and_eq_true] at h
  show sh0 a b=_
  unfold sh0 sameC
  rw [h.1,h.2,chkT,chkT]
  cases ha:validM a with
  | false=>rfl
  | true =>
    cases hb:validM b with
    | false=>rfl
    | true =>
      rw [can_size ha,can_size hb]
      rfl
theorem ok:CtxOk Tryz.prog X:=ctxOk tab (spC rsameN.spOk (spC rvalid.spOk (spC rcanon.spOk spN))) dpN
theorem okM:MOk Tryz.prog X:=fun g sp h=>by cases h
theorem spec (a:Mesh) (b:Mesh) (h:((sizeOk a&&sizeOk b))=true):CallSpec Tryz.prog E 27 [(.agg [(.lst .spot a.ms),(.lst .face a.mf)]),(.agg [(.lst .spot b.ms),(.lst .face b.mf)])] (.bool (sameC a b)) [] :=
  runFn_sound ok okM Tryz.call27 Tryz.func27 (by kernel_rfl) (by kernel_rfl) (by kernel_rfl) (by show 2≤18; decide) (by decide) (by rfl) ((run a b).trans (f0_eq a b h))
noncomputable def sp:Sp U El:=fun args k=>match args with
  | [.agg [.lst .spot a_ms,.lst .face a_mf],.agg [.lst .spot b_ms,.lst .face b_mf]]=>chk ((sizeOk (⟨a_ms,a_mf⟩:Mesh)&&sizeOk (⟨b_ms,b_mf⟩:Mesh))) (k (.bool (sameC (⟨a_ms,a_mf⟩:Mesh) (⟨b_ms,b_mf⟩:Mesh))) [])
  | _=>none
theorem spOk:SpOk Tryz.prog E 27 sp where
  det:=fun vs=>by
    unfold sp
    split
    · exact det_c _ _ _
    · exact ⟨none,fun _=>rfl⟩
  ok:=fun vs k r h=>by
    unfold sp at h
    split at h
    · obtain ⟨h1, h2⟩ := chk_some h
      exact ⟨_,_,spec ⟨_,_⟩ ⟨_,_⟩ h1,h2⟩
    · cases h
end rsameC
namespace lawForms
noncomputable def bd:Code:=(Tryz.f6.body).getD .skip
noncomputable def X:Ctx U El:=⟨E,tds,zeros,eqs,specOf [(8,awake.sp),(9,large.sp),(12,rsameN.sp),(14,rvalid.sp),(25,Canon.sp),(26,same.sp),(27,rsameC.sp),(28,rcanon.sp)],100000,45,dspecOf [],fun _=>none⟩
noncomputable def nmR:Norm U:=⟨[],[4],[],[],[],[],[]⟩
noncomputable def RR:Kont U El:=fun st=>normK nmR st (retFin [4] [])
noncomputable def nm1:Norm U:=⟨[],[2,3],[2,3],[],[],[],[(2,0,.spot),(2,1,.face),(3,0,.spot),(3,1,.face)]⟩
abbrev Y1:=(List Spot)→(List Face)→(List Spot)→(List Face)→R
noncomputable def fr0 (a:Mesh) (b:Mesh):St U El:=⟨[(0,(.agg [(.lst .spot a.ms),(.lst .face a.mf)])),(1,(.agg [(.lst .spot b.ms),(.lst .face b.mf)]))],[]⟩
noncomputable def fr1 (aA:List Spot) (bA:List Face) (cA:List Spot) (dA:List Face):St U El:=⟨[(2,(.ptr 2 0)),(3,(.ptr 3 0))],[(2,(.box 0 [(.lst .spot aA),(.lst .face bA)])),(3,(.box 0 [(.lst .spot cA),(.lst .face dA)]))]⟩
noncomputable def sh0 (a:Mesh) (b:Mesh) (k1:Y1):R :=
  condB (!(true)) (some ((.bool false),[])) (condB (largeB a) (some ((.bool true),[])) (condB (largeB b) (some ((.bool true),[])) (k1 a.ms a.mf b.ms b.mf)))
noncomputable def sh1 (aA:List Spot) (bA:List Face) (cA:List Spot) (dA:List Face):R :=
  chk (sizeOk (⟨aA,bA⟩:Mesh)) (chk ((sizeOk (⟨aA,bA⟩:Mesh)&&sizeOk (⟨cA,dA⟩:Mesh))) (chk ((sizeOk (⟨aA,bA⟩:Mesh)&&sizeOk (⟨cA,dA⟩:Mesh))) (condB (!((sameC (⟨aA,bA⟩:Mesh) (⟨cA,dA⟩:Mesh)) == (sameC (⟨aA,bA⟩:Mesh) (⟨cA,dA⟩:Mesh)))) (some ((.bool false),[])) (chk (sizeOk (⟨aA,bA⟩:Mesh)) (condB (!(validM (⟨aA,bA⟩:Mesh))) (chk ((sizeOk (CanM (⟨aA,bA⟩:Mesh))&&sizeOk (⟨[],[]⟩:Mesh))) (condB (sameM (CanM (⟨aA,bA⟩:Mesh)) (⟨[],[]⟩:Mesh)) (some ((.bool ((argE (⟨aA,bA⟩:Mesh)) == (1:Int))),[])) (some ((.bool false),[])))) (condB ((argE (⟨aA,bA⟩:Mesh)) == (0:Int)) (chk (validM (⟨aA,bA⟩:Mesh)) (chk ((sizeOk (CanM (⟨aA,bA⟩:Mesh))&&sizeOk (canM (⟨aA,bA⟩:Mesh)))) (some ((.bool (sameM (CanM (⟨aA,bA⟩:Mesh)) (canM (⟨aA,bA⟩:Mesh)))),[])))) (some ((.bool false),[]))))))))
noncomputable def ct1:Kont U El:=fun st=>exec X (cdp [1,1,1] bd) .d st RR (fun _ _=>none) RR
theorem P0 (a b):exec X (cdp [] bd) (.seq none .d (.seq none .d (.seq (some nm1) .d .d))) (fr0 a b) RR (fun _ _=>none) RR=sh0 a b (fun y0 y1 y2 y3=>(hid ct1) (fr1 y0 y1 y2 y3)):=by kernel_rfl
theorem P1 (aA bA cA dA):ct1 (fr1 aA bA cA dA)=sh1 aA bA cA dA:=by kernel_rfl
noncomputable def f1 (aA:List Spot) (bA:List Face) (cA:List Spot) (dA:List Face):R:=sh1 aA bA cA dA
noncomputable def f0 (a:Mesh) (b:Mesh):R:=sh0 a b f1
theorem T1 (aA bA cA dA):(hid ct1) (fr1 aA bA cA dA)=f1 aA bA cA dA:=by
  refine (congrFun (hid_eq _) _).trans <| (P1 aA bA cA dA).trans ?_
  show _=sh1 aA bA cA dA
  rfl
theorem T0 (a b):exec X bd (.seq none .d (.seq none .d (.seq (some nm1) .d .d))) (fr0 a b) RR (fun _ _=>none) RR=f0 a b:=by
  refine (P0 a b).trans ?_
  show _=sh0 a b f1
  simp only [T1]
theorem run (a b):runFn X bd (.seq none .d (.seq none .d (.seq (some nm1) .d .d))) nmR [4] [] [(.agg [(.lst .spot a.ms),(.lst .face a.mf)]),(.agg [(.lst .spot b.ms),(.lst .face b.mf)])]=f0 a b:=T0 a b
theorem f0_eq (a b:Mesh):f0 a b=outB true:=by
  show sh0 a b f1=_
  unfold sh0
  cases ha:largeB a with
  | true=>rfl
  | false =>
  cases hb:largeB b with
  | true=>rfl
  | false =>
  have sa:=large_size ha; have sb:=large_size hb
  show sh1 a.ms a.mf b.ms b.mf=_
  unfold sh1
  show chk (sizeOk a) (chk (sizeOk a&&sizeOk b) (chk (sizeOk a&&sizeOk b) (condB (!(sameC a b == sameC a b)) (outB false) (chk (sizeOk a) (condB (!(validM a)) (chk (sizeOk (CanM a)&&sizeOk (⟨[],[]⟩:Mesh)) (condB (sameM (CanM a) (⟨[],[]⟩:Mesh)) (outB (argE a == (1:Int))) (outB false))) (condB (argE a == (0:Int)) (chk (validM a) (chk (sizeOk (CanM a)&&sizeOk (canM a)) (outB (sameM (CanM a) (canM a))))) (outB false)))))))=_
  rw [sa,sb,Bool.and_self,chkT,chkT,chkT,chkT,beq_self_eq_true,show (!true)=false from rfl,condF,Can_size a]
  cases hv:validM a with
  | false =>
    have hC:CanM a=⟨[],[]⟩:=by unfold CanM; rw [hv]; rfl
    have hA:argE a=1:=by unfold argE; rw [hv]; rfl
    rw [hC,sameM_refl,hA]
    rfl
  | true =>
    have hC:CanM a=canM a:=by unfold CanM; rw [hv]; rfl
    have hA:argE a=0:=by unfold argE; rw [hv]; rfl
    rw [hC,sameM_refl,hA,can_size hv]
    rfl
theorem ok:CtxOk Tryz.prog X:=ctxOk tab (spC awake.spOk (spC large.spOk (spC rsameN.spOk (spC rvalid.spOk (spC Canon.spOk (spC same.spOk (spC rsameC.spOk (spC rcanon.spOk spN)))))))) dpN
theorem okM:MOk Tryz.prog X:=fun g sp h=>by cases h
theorem spec (a:Mesh) (b:Mesh):CallSpec Tryz.prog E 6 [(.agg [(.lst .spot a.ms),(.lst .face a.mf)]),(.agg [(.lst .spot b.ms),(.lst .face b.mf)])] (.bool (true)) [] :=
  runFn_sound ok okM Tryz.call6 Tryz.func6 (by kernel_rfl) (by kernel_rfl) (by kernel_rfl) (by show 2≤45; decide) (by decide) (by rfl) ((run a b).trans (f0_eq a b))
noncomputable def sp:Sp U El:=fun args k=>match args with
  | [.agg [.lst .spot a_ms,.lst .face a_mf],.agg [.lst .spot b_ms,.lst .face b_mf]]=>k (.bool (true)) []
  | _=>none
theorem spOk:SpOk Tryz.prog E 6 sp where
  det:=fun vs=>by
    unfold sp
    split
    · exact ⟨some (_,_),fun _=>rfl⟩
    · exact ⟨none,fun _=>rfl⟩
  ok:=fun vs k r h=>by
    unfold sp at h
    split at h
    · exact ⟨_,_,spec ⟨_,_⟩ ⟨_,_⟩,h⟩
    · cases h
end lawForms
end Go.Proofs.YtnofdcckddfooaaGreatDoor
