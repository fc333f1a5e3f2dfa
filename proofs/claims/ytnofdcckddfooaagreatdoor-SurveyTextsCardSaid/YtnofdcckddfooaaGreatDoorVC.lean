/- Equality of surfaces; grids, the code's. -/
import Derived.Test.YtnofdcckddfooaaGreatDoorVB
namespace Go.Proofs.YtnofdcckddfooaaGreatDoor
set_option linter.unusedSectionVars false
set_option linter.unusedSimpArgs false
set_option linter.unusedVariables false
set_option maxRecDepth 100000
noncomputable def sameM (a b:Mesh):Bool:=@decide (a=b) (Classical.propDecidable _)
theorem sameM_refl (a:Mesh):sameM a a=true:=@decide_eq_true _ (Classical.propDecidable _) rfl
theorem sameM_T {a b:Mesh} (h:a=b):sameM a b=true:=@decide_eq_true _ (Classical.propDecidable _) h
theorem sameM_F {a b:Mesh} (h:a≠b):sameM a b=false:=@decide_eq_false _ (Classical.propDecidable _) h
theorem mesh_eq {a b:Mesh} (h1:a.ms=b.ms) (h2:a.mf=b.mf):a=b:=by
  cases a; cases b; simp at h1 h2; subst h1 h2; rfl
namespace rsame
noncomputable def bd:Code:=(Tryz.f12.body).getD .skip
noncomputable def X:Ctx U El:=⟨E,tds,zeros,eqs,specOf [],100000,59,dspecOf [],fun _=>none⟩
noncomputable def nmR:Norm U:=⟨[],[4],[],[],[],[],[]⟩
noncomputable def RR:Kont U El:=fun st=>normK nmR st (retFin [4] [])
noncomputable def nm1:Norm U:=⟨[],[2,3],[2,3],[],[],[],[(2,0,.spot),(2,1,.face),(3,0,.spot),(3,1,.face)]⟩
noncomputable def nm2:Norm U:=⟨[],[2,3],[2,3],[],[],[],[(2,0,.spot),(2,1,.face),(3,0,.spot),(3,1,.face)]⟩
noncomputable def nm3:Norm U:=⟨[],[2,3,5],[2,3],[],[],[],[(2,0,.spot),(2,1,.face),(3,0,.spot),(3,1,.face)]⟩
noncomputable def nm4:Norm U:=⟨[],[],[],[],[],[],[]⟩
noncomputable def nm5:Norm U:=⟨[],[2,3,6],[2,3],[],[],[],[(2,0,.spot),(2,1,.face),(3,0,.spot),(3,1,.face)]⟩
abbrev Y1:=(List Spot)→(List Face)→(List Spot)→(List Face)→R
abbrev Y2:=(List Spot)→(List Face)→(List Spot)→(List Face)→R
abbrev Y3:=Int→(List Spot)→(List Face)→(List Spot)→(List Face)→R
abbrev Y4:=R
abbrev Y5:=Int→(List Spot)→(List Face)→(List Spot)→(List Face)→R
noncomputable def fr0 (a:Mesh) (b:Mesh):St U El:=⟨[(0,(.agg [(.lst .spot a.ms),(.lst .face a.mf)])),(1,(.agg [(.lst .spot b.ms),(.lst .face b.mf)]))],[]⟩
noncomputable def fr1 (iA:List Spot) (gA:List Face) (kA:List Spot) (jA:List Face):St U El:=⟨[(2,(.ptr 2 0)),(3,(.ptr 3 0))],[(2,(.box 0 [(.lst .spot iA),(.lst .face gA)])),(3,(.box 0 [(.lst .spot kA),(.lst .face jA)]))]⟩
noncomputable def fr2 (iA:List Spot) (gA:List Face) (kA:List Spot) (jA:List Face):St U El:=⟨[(2,(.ptr 2 0)),(3,(.ptr 3 0))],[(2,(.box 0 [(.lst .spot iA),(.lst .face gA)])),(3,(.box 0 [(.lst .spot kA),(.lst .face jA)]))]⟩
noncomputable def fr3 (i5:Int) (iA:List Spot) (gA:List Face) (kA:List Spot) (jA:List Face):St U El:=⟨[(2,(.ptr 2 0)),(3,(.ptr 3 0)),(5,(.int .i64 i5))],[(2,(.box 0 [(.lst .spot iA),(.lst .face gA)])),(3,(.box 0 [(.lst .spot kA),(.lst .face jA)]))]⟩
noncomputable def fr4:St U El:=⟨[],[]⟩
noncomputable def fr5 (i6:Int) (iA:List Spot) (gA:List Face) (kA:List Spot) (jA:List Face):St U El:=⟨[(2,(.ptr 2 0)),(3,(.ptr 3 0)),(6,(.int .i64 i6))],[(2,(.box 0 [(.lst .spot iA),(.lst .face gA)])),(3,(.box 0 [(.lst .spot kA),(.lst .face jA)]))]⟩
noncomputable def sh0 (a:Mesh) (b:Mesh) (k1:Y1):R :=
  condB ((Int.ofNat (List.length a.ms)) != (Int.ofNat (List.length b.ms))) (some ((.bool false),[])) (condB ((Int.ofNat (List.length a.mf)) != (Int.ofNat (List.length b.mf))) (some ((.bool false),[])) (k1 a.ms a.mf b.ms b.mf))
noncomputable def sh1 (iA:List Spot) (gA:List Face) (kA:List Spot) (jA:List Face) (k3:Y3):R :=
  k3 (0:Int) iA gA kA jA
noncomputable def sh2 (iA:List Spot) (gA:List Face) (kA:List Spot) (jA:List Face) (k5:Y5):R :=
  k5 (0:Int) iA gA kA jA
noncomputable def sh3 (i5:Int) (iA:List Spot) (gA:List Face) (kA:List Spot) (jA:List Face) (k2:Y2) (k3:Y3):R :=
  condB (ilt i5 (Int.ofNat (List.length iA))) (chk (inb i5 (List.length iA)) (chk (inb i5 (List.length kA)) (condB (!(((List.getD iA (Int.toNat i5) d_spot).px == (List.getD kA (Int.toNat i5) d_spot).px)&&(((List.getD iA (Int.toNat i5) d_spot).py == (List.getD kA (Int.toNat i5) d_spot).py)&&(((List.getD iA (Int.toNat i5) d_spot).pz == (List.getD kA (Int.toNat i5) d_spot).pz)&&true)))) (some ((.bool false),[])) (k3 (IntKind.wrap .i64 (i5+(1:Int))) iA gA kA jA)))) (k2 iA gA kA jA)
noncomputable def sh4:R :=
  some ((.bool true),[])
noncomputable def sh5 (i6:Int) (iA:List Spot) (gA:List Face) (kA:List Spot) (jA:List Face) (k4:Y4) (k5:Y5):R :=
  condB (ilt i6 (Int.ofNat (List.length gA))) (chk (inb i6 (List.length gA)) (chk (inb i6 (List.length jA)) (condB (!(((List.getD gA (Int.toNat i6) d_face).fa == (List.getD jA (Int.toNat i6) d_face).fa)&&(((List.getD gA (Int.toNat i6) d_face).fb == (List.getD jA (Int.toNat i6) d_face).fb)&&(((List.getD gA (Int.toNat i6) d_face).fc == (List.getD jA (Int.toNat i6) d_face).fc)&&(((List.getD gA (Int.toNat i6) d_face).fk == (List.getD jA (Int.toNat i6) d_face).fk)&&true))))) (some ((.bool false),[])) (k5 (IntKind.wrap .i64 (i6+(1:Int))) iA gA kA jA)))) (k4)
noncomputable def it3 (Kb2:Kont U El) (n:Nat):Kont U El:=iter nm3 (fun st' K'=>exec X (cdp [1,1,0,1,0,0] bd) .d st' K' (Eblk 0 (cutK nm2 Kb2) (fun _ _=>none)) RR) n
noncomputable def it5 (Kb4:Kont U El) (n:Nat):Kont U El:=iter nm5 (fun st' K'=>exec X (cdp [1,1,1,0,1,0,0] bd) .d st' K' (Eblk 2 (cutK nm4 Kb4) (fun _ _=>none)) RR) n
noncomputable def ct1:Kont U El:=fun st=>exec X (cdp [1,1] bd) (.seq (some nm2) (.seq none .d (.block (.loop nm3 .d))) (.seq (some nm4) (.seq none .d (.block (.loop nm5 .d))) .d)) st RR (fun _ _=>none) RR
noncomputable def ct2:Kont U El:=fun st=>exec X (cdp [1,1,1] bd) (.seq (some nm4) (.seq none .d (.block (.loop nm5 .d))) .d) st RR (fun _ _=>none) RR
noncomputable def ct4:Kont U El:=fun st=>exec X (cdp [1,1,1,1] bd) .d st RR (fun _ _=>none) RR
theorem P0 (a b):exec X (cdp [] bd) (.seq none .d (.seq (some nm1) .d (.seq (some nm2) (.seq none .d (.block (.loop nm3 .d))) (.seq (some nm4) (.seq none .d (.block (.loop nm5 .d))) .d)))) (fr0 a b) RR (fun _ _=>none) RR=sh0 a b (fun y0 y1 y2 y3=>(hid ct1) (fr1 y0 y1 y2 y3)):=by kernel_rfl
theorem P1 (iA gA kA jA):ct1 (fr1 iA gA kA jA)=sh1 iA gA kA jA (fun y0 y1 y2 y3 y4=>(hid (it3 (hid ct2) 100000)) (fr3 y0 y1 y2 y3 y4)):=by kernel_rfl
theorem P2 (iA gA kA jA):ct2 (fr2 iA gA kA jA)=sh2 iA gA kA jA (fun y0 y1 y2 y3 y4=>(hid (it5 (hid ct4) 100000)) (fr5 y0 y1 y2 y3 y4)):=by kernel_rfl
theorem P3 (i5 iA gA kA jA) (Kb2 Kb3:Kont U El):exec X (cdp [1,1,0,1,0,0] bd) .d (fr3 i5 iA gA kA jA) (cutK nm3 Kb3) (Eblk 0 (cutK nm2 Kb2) (fun _ _=>none)) RR=sh3 i5 iA gA kA jA (fun y0 y1 y2 y3=>Kb2 (fr2 y0 y1 y2 y3)) (fun y0 y1 y2 y3 y4=>Kb3 (fr3 y0 y1 y2 y3 y4)):=by kernel_rfl
theorem P4:ct4 (fr4)=sh4:=by kernel_rfl
theorem P5 (i6 iA gA kA jA) (Kb4 Kb5:Kont U El):exec X (cdp [1,1,1,0,1,0,0] bd) .d (fr5 i6 iA gA kA jA) (cutK nm5 Kb5) (Eblk 2 (cutK nm4 Kb4) (fun _ _=>none)) RR=sh5 i6 iA gA kA jA (Kb4 (fr4)) (fun y0 y1 y2 y3 y4=>Kb5 (fr5 y0 y1 y2 y3 y4)):=by kernel_rfl
noncomputable def f4:R:=sh4
noncomputable def f5:Nat→Y5
  | 0=>fun _ _ _ _ _=>none
  | n+1=>fun i6 iA gA kA jA=>sh5 i6 iA gA kA jA f4 (f5 n)
noncomputable def f2 (iA:List Spot) (gA:List Face) (kA:List Spot) (jA:List Face):R:=sh2 iA gA kA jA (f5 100000)
noncomputable def f3:Nat→Y3
  | 0=>fun _ _ _ _ _=>none
  | n+1=>fun i5 iA gA kA jA=>sh3 i5 iA gA kA jA f2 (f3 n)
noncomputable def f1 (iA:List Spot) (gA:List Face) (kA:List Spot) (jA:List Face):R:=sh1 iA gA kA jA (f3 100000)
noncomputable def f0 (a:Mesh) (b:Mesh):R:=sh0 a b f1
theorem T4:(hid ct4) (fr4)=f4:=by
  refine (congrFun (hid_eq _) _).trans <| (P4).trans ?_
  show _=sh4
  rfl
theorem T5:∀ (n:Nat),∀ i6 iA gA kA jA,it5 (hid ct4) n (fr5 i6 iA gA kA jA)=f5 n i6 iA gA kA jA:=by
  intro n
  induction n with
  | zero=>intros; rfl
  | succ n ih =>
    intro i6 iA gA kA jA
    refine (P5 i6 iA gA kA jA (hid ct4) (it5 (hid ct4) n)).trans ?_
    show _=sh5 i6 iA gA kA jA f4 (f5 n)
    simp only [T4,ih]
theorem H5 (i6 iA gA kA jA):hid (it5 (hid ct4) 100000) (fr5 i6 iA gA kA jA)=f5 100000 i6 iA gA kA jA:=(congrFun (hid_eq _) _).trans (T5 100000 i6 iA gA kA jA)
theorem T2 (iA gA kA jA):(hid ct2) (fr2 iA gA kA jA)=f2 iA gA kA jA:=by
  refine (congrFun (hid_eq _) _).trans <| (P2 iA gA kA jA).trans ?_
  show _=sh2 iA gA kA jA (f5 100000)
  simp only [H5]
theorem T3:∀ (n:Nat),∀ i5 iA gA kA jA,it3 (hid ct2) n (fr3 i5 iA gA kA jA)=f3 n i5 iA gA kA jA:=by
  intro n
  induction n with
  | zero=>intros; rfl
  | succ n ih =>
    intro i5 iA gA kA jA
    refine (P3 i5 iA gA kA jA (hid ct2) (it3 (hid ct2) n)).trans ?_
    show _=sh3 i5 iA gA kA jA f2 (f3 n)
    simp only [T2,ih]
theorem H3 (i5 iA gA kA jA):hid (it3 (hid ct2) 100000) (fr3 i5 iA gA kA jA)=f3 100000 i5 iA gA kA jA:=(congrFun (hid_eq _) _).trans (T3 100000 i5 iA gA kA jA)
theorem T1 (iA gA kA jA):(hid ct1) (fr1 iA gA kA jA)=f1 iA gA kA jA:=by
  refine (congrFun (hid_eq _) _).trans <| (P1 iA gA kA jA).trans ?_
  show _=sh1 iA gA kA jA (f3 100000)
  simp only [H3]
theorem T0 (a b):exec X bd (.seq none .d (.seq (some nm1) .d (.seq (some nm2) (.seq none .d (.block (.loop nm3 .d))) (.seq (some nm4) (.seq none .d (.block (.loop nm5 .d))) .d)))) (fr0 a b) RR (fun _ _=>none) RR=f0 a b:=by
  refine (P0 a b).trans ?_
  show _=sh0 a b f1
  simp only [T1]
theorem run (a b):runFn X bd (.seq none .d (.seq (some nm1) .d (.seq (some nm2) (.seq none .d (.block (.loop nm3 .d))) (.seq (some nm4) (.seq none .d (.block (.loop nm5 .d))) .d)))) nmR [4] [] [(.agg [(.lst .spot a.ms),(.lst .face a.mf)]),(.agg [(.lst .spot b.ms),(.lst .face b.mf)])]=f0 a b:=T0 a b
theorem facesL (a b : Mesh) (hl : a.mf.length = b.mf.length) (h9 : a.mf.length ≤ 90000) : ∀ (n i : Nat), a.mf.length < n + i → i ≤ a.mf.length → f5 n (i : Int) a.ms a.mf b.ms b.mf = outB (@decide (a.mf.drop i = b.mf.drop i) (Classical.propDecidable _)) := by
  intro n
  induction n with
  | zero=>intro i h1 h2; omega
  | succ n ih =>
    intro i h1 h2
    show sh5 (i:Int) a.ms a.mf b.ms b.mf f4 (f5 n)=_
    unfold sh5
    by_cases hk:i < a.mf.length
    · have hk' : i < b.mf.length := by omega
      rw [iltT (by simp; omega),condT,inbT hk,inbT hk',toNat_nat,getD_lt hk,getD_lt hk',wrapS i (by omega),chkT,chkT,drop_lt hk,drop_lt hk',ih (i+1) (by omega) hk]
      by_cases e:a.mf[i]=b.mf[i]
      · have h1 : (!((a.mf[i].fa == b.mf[i].fa) && ((a.mf[i].fb == b.mf[i].fb) && ((a.mf[i].fc == b.mf[i].fc) && ((a.mf[i].fk == b.mf[i].fk) && true))))) = false := by rw [e]; simp
        rw [h1,condF,e]
        congr 1
        by_cases e2:a.mf.drop (i+1)=b.mf.drop (i+1)
        · rw [@decide_eq_true _ (Classical.propDecidable _) e2,@decide_eq_true _ (Classical.propDecidable _) (by rw [e2])]
        · rw [@decide_eq_false _ (Classical.propDecidable _) e2,@decide_eq_false _ (Classical.propDecidable _) (by intro h; exact e2 (List.cons.inj h).2)]
      · have h1 : (!((a.mf[i].fa == b.mf[i].fa) && ((a.mf[i].fb == b.mf[i].fb) && ((a.mf[i].fc == b.mf[i].fc) && ((a.mf[i].fk == b.mf[i].fk) && true))))) = true := by
          rw [Bool.not_eq_true',Bool.eq_false_iff]
          intro h
          simp only [Bool.and_eq_true,beq_iff_eq] at h
          apply e
          generalize a.mf[i]=x at h
          generalize b.mf[i]=y at h
          cases x; cases y
          simp_all
        rw [h1,condT,@decide_eq_false _ (Classical.propDecidable _) (by intro h; exact e (List.cons.inj h).1)]
        rfl
    · have : i = a.mf.length := by omega
      subst this
      rw [iltF (by simp),condF,List.drop_length,hl,List.drop_length]
      show outB true=_
      rw [@decide_eq_true _ (Classical.propDecidable _) rfl]
theorem spotsL (a b : Mesh) (hl : a.ms.length = b.ms.length) (hf : a.mf.length = b.mf.length) (h9 : a.ms.length ≤ 90000) (h8 : a.mf.length ≤ 90000) : ∀ (n i : Nat), a.ms.length < n + i → i ≤ a.ms.length → f3 n (i : Int) a.ms a.mf b.ms b.mf = bif @decide (a.ms.drop i = b.ms.drop i) (Classical.propDecidable _) then f2 a.ms a.mf b.ms b.mf else outB false := by
  intro n
  induction n with
  | zero=>intro i h1 h2; omega
  | succ n ih =>
    intro i h1 h2
    show sh3 (i:Int) a.ms a.mf b.ms b.mf f2 (f3 n)=_
    unfold sh3
    by_cases hk:i < a.ms.length
    · have hk' : i < b.ms.length := by omega
      rw [iltT (by simp; omega),condT,inbT hk,inbT hk',toNat_nat,getD_lt hk,getD_lt hk',wrapS i (by omega),chkT,chkT,drop_lt hk,drop_lt hk',ih (i+1) (by omega) hk]
      by_cases e:a.ms[i]=b.ms[i]
      · have h1 : (!((a.ms[i].px == b.ms[i].px) && ((a.ms[i].py == b.ms[i].py) && ((a.ms[i].pz == b.ms[i].pz) && true)))) = false := by rw [e]; simp
        rw [h1,condF,e]
        by_cases e2:a.ms.drop (i+1)=b.ms.drop (i+1)
        · rw [@decide_eq_true _ (Classical.propDecidable _) e2,@decide_eq_true _ (Classical.propDecidable _) (by rw [e2])]
        · rw [@decide_eq_false _ (Classical.propDecidable _) e2,@decide_eq_false _ (Classical.propDecidable _) (by intro h; exact e2 (List.cons.inj h).2)]
      · have h1 : (!((a.ms[i].px == b.ms[i].px) && ((a.ms[i].py == b.ms[i].py) && ((a.ms[i].pz == b.ms[i].pz) && true)))) = true := by
          rw [Bool.not_eq_true',Bool.eq_false_iff]
          intro h
          simp only [Bool.and_eq_true,beq_iff_eq] at h
          apply e
          generalize a.ms[i]=x at h
          generalize b.ms[i]=y at h
          cases x; cases y
          simp_all
        rw [h1,condT,@decide_eq_false _ (Classical.propDecidable _) (by intro h; exact e (List.cons.inj h).1)]
        rfl
    · have : i = a.ms.length := by omega
      subst this
      rw [iltF (by simp),condF,List.drop_length,hl,List.drop_length,@decide_eq_true _ (Classical.propDecidable _) rfl]
      rfl
theorem f0_eq (a b : Mesh) (h : (sizeOk a && sizeOk b) = true) : f0 a b = outB (sameM a b) := by
  simp only [sizeOk,Bool.and_eq_true] at h
  have n1:=nleI h.1.1; have n2:=nleI h.1.2
  show sh0 a b f1=_
  unfold sh0
  by_cases hl:a.ms.length=b.ms.length
  · by_cases hf : a.mf.length = b.mf.length
    · have h1 : (Int.ofNat (List.length a.ms) != Int.ofNat (List.length b.ms)) = false := by simp [hl]
      have h2:(Int.ofNat (List.length a.mf) != Int.ofNat (List.length b.mf))=false:=by simp [hf]
      rw [h1,h2,condF,condF]
      show sh1 a.ms a.mf b.ms b.mf (f3 100000)=_
      refine Eq.trans (spotsL a b hl hf n1 n2 100000 0 (by omega) (by omega)) ?_
      rw [List.drop_zero,List.drop_zero]
      by_cases e:a.ms=b.ms
      · rw [@decide_eq_true _ (Classical.propDecidable _) e, cond_true]
        show f5 100000 ((0:Nat):Int) a.ms a.mf b.ms b.mf=_
        rw [facesL a b hf n2 100000 0 (by omega) (by omega),List.drop_zero,List.drop_zero]
        by_cases e2:a.mf=b.mf
        · rw [sameM_T (mesh_eq e e2),@decide_eq_true _ (Classical.propDecidable _) e2]
        · rw [sameM_F (fun h=>e2 (by rw [h])),@decide_eq_false _ (Classical.propDecidable _) e2]
      · rw [@decide_eq_false _ (Classical.propDecidable _) e,cond_false,sameM_F (fun h=>e (by rw [h]))]
    · have h1 : (Int.ofNat (List.length a.ms) != Int.ofNat (List.length b.ms)) = false := by simp [hl]
      have h2:(Int.ofNat (List.length a.mf) != Int.ofNat (List.length b.mf))=true:=by rw [bne_iff_ne]; intro e; exact hf (Int.ofNat.inj e)
      rw [h1,h2,condF,condT,sameM_F (fun h=>hf (by rw [h]))]
      rfl
  · have h1 : (Int.ofNat (List.length a.ms) != Int.ofNat (List.length b.ms)) = true := by rw [bne_iff_ne]; intro e; exact hl (Int.ofNat.inj e)
    rw [h1,condT,sameM_F (fun h=>hl (by rw [h]))]
    rfl
theorem ok:CtxOk Tryz.prog X:=ctxOk tab spN dpN
theorem okM:MOk Tryz.prog X:=fun g sp h=>by cases h
theorem spec (a:Mesh) (b:Mesh) (h:((sizeOk a&&sizeOk b))=true):CallSpec Tryz.prog E 12 [(.agg [(.lst .spot a.ms),(.lst .face a.mf)]),(.agg [(.lst .spot b.ms),(.lst .face b.mf)])] (.bool (sameM a b)) [] :=
  runFn_sound ok okM Tryz.call12 Tryz.func12 (by kernel_rfl) (by kernel_rfl) (by kernel_rfl) (by show 2≤59; decide) (by decide) (by rfl) ((run a b).trans (f0_eq a b h))
noncomputable def sp:Sp U El:=fun args k=>match args with
  | [.agg [.lst .spot a_ms,.lst .face a_mf],.agg [.lst .spot b_ms,.lst .face b_mf]]=>chk ((sizeOk (⟨a_ms,a_mf⟩:Mesh)&&sizeOk (⟨b_ms,b_mf⟩:Mesh))) (k (.bool (sameM (⟨a_ms,a_mf⟩:Mesh) (⟨b_ms,b_mf⟩:Mesh))) [])
  | _=>none
theorem spOk:SpOk Tryz.prog E 12 sp where
  det:=fun vs=>by
    unfold sp
    split
    · exact det_c _ _ _
    · exact ⟨none,fun _=>rfl⟩
  ok:=fun vs k r h=>by
    unfold sp at h
    split at h
    · obtain ⟨h1, h2⟩ := chk_some h
      exact ⟨_,_,spec ⟨_,_⟩ ⟨_,_⟩ h1,h2⟩
    · cases h
end rsame
structure GG (r c st:Int) (lv:List Int) (R C:Nat):Prop where
  er:r=(R:Int)
  ec:c=(C:Int)
  r1:1≤R
  c1:1≤C
  st1:1≤st
  st9:st≤16777216
  rs:r * st≤16777216
  cs:c * st≤16777216
  n:(R+1) * (C+1)≤2000
  f:2 * R * C≤4000
  l:lv.length=(R+1) * (C+1)
theorem GG.small {r c st:Int} {lv:List Int} {R C:Nat} (h:GG r c st lv R C):R≤1000∧C≤1000:=by
  have h1:=h.n; have h2:=h.r1; have h3:=h.c1
  constructor
  · have : (R + 1) * 2 ≤ (R + 1) * (C + 1) := Nat.mul_le_mul_left _ (by omega)
    omega
  · have : 2 * (C + 1) ≤ (R + 1) * (C + 1) := Nat.mul_le_mul_right _ (by omega)
    omega
end Go.Proofs.YtnofdcckddfooaaGreatDoor
