/- Flat spots: what the code's Thin and the document's Thin compute. -/
import Derived.Test.YtnofdcckddfooaaGreatDoorRB
import Derived.Test.YtnofdcckddfooaaGreatDoorVI
namespace Go.Proofs.YtnofdcckddfooaaGreatDoor
set_option linter.unusedSectionVars false
set_option linter.unusedSimpArgs false
set_option linter.unusedVariables false
set_option maxRecDepth 100000
noncomputable def opn (m:Mesh) (p:Pr):Bool := !(m.mf.any (hasS ⟨p.p1,p.p0⟩))
noncomputable def zOf (m:Mesh) (a:Int):Int:=(List.getD m.ms (Int.toNat a) d_spot).pz
noncomputable def badS (m:Mesh) (t:Int) (p:Pr):Bool:=opn m p||(ilt t (zOf m p.p0 - zOf m p.p1)||ilt (zOf m p.p0 - zOf m p.p1) (0 - t))
noncomputable def tch (s:Int) (p:Pr):Bool:=(p.p0 == s)||(p.p1 == s)
noncomputable def sidesL (f:Face):List Pr:=[⟨f.fa,f.fb⟩,⟨f.fb,f.fc⟩,⟨f.fc,f.fa⟩]
noncomputable def allS (m:Mesh):List Pr:=m.mf.flatMap sidesL
noncomputable def flatB (m:Mesh) (t s:Int):Bool:=(allS m).any (tch s) && !((allS m).any fun p=>tch s p&&badS m t p)
noncomputable def tolOk (t:Int):Bool:=ile 0 t&&ile t 8388608
noncomputable def largeB (m:Mesh):Bool:=(ilt (40:Int) (Int.ofNat (List.length m.ms))&&ile (Int.ofNat (List.length m.ms)) (2000:Int))||((ilt (60:Int) (Int.ofNat (List.length m.mf))&&ile (Int.ofNat (List.length m.mf)) (4000:Int))||(ilt (2050:Int) (Int.ofNat (List.length m.ms))||ilt (4050:Int) (Int.ofNat (List.length m.mf))))
theorem large_size {m:Mesh} (h:largeB m=false):sizeOk m=true:=by
  simp only [largeB,Bool.or_eq_false_iff] at h
  have h1:=iltN h.2.2.1; have h2:=iltN h.2.2.2
  unfold sizeOk
  rw [nleT (by simp at h1; omega),nleT (by simp at h2; omega)]
  rfl
theorem valid_spots {m:Mesh} (h:validM m=true):∀ s∈m.ms,rightB s=true:=by
  simp only [validM,Bool.and_eq_true] at h
  have h2:=h.2
  rw [← clean_D] at h2
  simp only [cleanD,Bool.and_eq_true] at h2
  exact cleanP_right _ _ h2.1
theorem z_range {m:Mesh} (h:validM m=true) (a:Int) : -4194304≤zOf m a∧zOf m a≤4194304:=by
  unfold zOf
  by_cases hk:a.toNat < m.ms.length
  · rw [getD_lt hk]
    have:=valid_spots h _ (List.getElem_mem hk)
    simp only [rightB,Bool.and_eq_true] at this
    exact ⟨ileI this.2.1,ileI this.2.2⟩
  · have : List.getD m.ms a.toNat d_spot = d_spot := by rw [List.getD, List.getElem?_eq_none (by omega)]; rfl
    rw [this]
    exact ⟨by decide,by decide⟩
noncomputable def sideIs (f:Face) (a b k:Int):Bool:=(cornZ f k == a)&&(cornZ f (k+1) == b)
noncomputable def sideL (a b:Int):List Face→Nat→Int×Int
  | [],_=>(-1,0)
  | f :: r,i=>bif sideIs f a b 0 then ((i:Int),0) else bif sideIs f a b 1 then ((i:Int),1) else bif sideIs f a b 2 then ((i:Int),2) else sideL a b r (i+1)
noncomputable def sideAt (m:Mesh) (a b:Int):Int×Int:=sideL a b m.mf 0
noncomputable def acrossAt (m:Mesh) (fc sd:Int):Int×Int:=sideAt m (cornZ (List.getD m.mf (Int.toNat fc) d_face) (IntKind.wrap .i64 (sd+1))) (cornZ (List.getD m.mf (Int.toNat fc) d_face) sd)
noncomputable def rn3 (m:Mesh) (i:Nat):N3:=⟨(acrossAt m (i:Int) 0).1,(acrossAt m (i:Int) 1).1,(acrossAt m (i:Int) 2).1⟩
noncomputable def rneighL (m:Mesh):List N3:=(List.range' 0 m.mf.length).map (rn3 m)
noncomputable def out2 (p:Int×Int):R:=some ((.tup [(.int .i64 p.1),(.int .i64 p.2)]),[])
theorem side_is (f:Face) (a b:Int) (k:Nat) (hk:k < 3):sideIs f a b (k:Int)=kq_pr ⟨a,b⟩ (sideF f (k:Int)):=by
  have e:∀ x y:Int,(x == y)=(y == x):=fun x y=>by
    by_cases h:x=y
    · rw [h]
    · rw [beq_eq_false_iff_ne.2 h,beq_eq_false_iff_ne.2 (Ne.symm h)]
  unfold sideIs kq_pr
  rw [e (cornZ f (k:Int)) a,e (cornZ f ((k:Int)+1)) b,Bool.and_true]
  match k,hk with
  | 0,_=>rfl
  | 1,_=>rfl
  | 2,_=>rfl
theorem sideL_neg (a b : Int) : ∀ (l : List Face) (i : Nat), ilt (sideL a b l i).1 0 = !(l.any (hasS ⟨a, b⟩)) := by
  intro l
  induction l with
  | nil=>intro i; rfl
  | cons f r ih =>
    intro i
    have k0:=side_is f a b 0 (by omega); have k1:=side_is f a b 1 (by omega); have k2:=side_is f a b 2 (by omega)
    rw [List.any_cons]
    unfold hasS
    show ilt (sideL a b (f :: r) i).1 0 = !((kq_pr ⟨a,b⟩ (sideF f ((0:Nat):Int))||(kq_pr ⟨a,b⟩ (sideF f ((1:Nat):Int))||kq_pr ⟨a,b⟩ (sideF f ((2:Nat):Int))))||r.any (hasS ⟨a,b⟩))
    rw [← k0,← k1,← k2]
    have hi:ilt (i:Int) 0=false:=iltF (by omega)
    have ih:=ih (i+1)
    simp only [sideL]
    show ilt (bif sideIs f a b ((0:Nat):Int) then ((i:Int),(0:Int)) else bif sideIs f a b ((1:Nat):Int) then ((i:Int),(1:Int)) else bif sideIs f a b ((2:Nat):Int) then ((i:Int),(2:Int)) else sideL a b r (i+1)).1 0=_
    cases sideIs f a b ((0:Nat):Int) with
    | true=>simp [hi]
    | false =>
      cases sideIs f a b ((1:Nat):Int) with
      | true=>simp [hi]
      | false =>
        cases sideIs f a b ((2:Nat):Int) with
        | true=>simp [hi]
        | false=>simpa using ih
theorem across_opn (m:Mesh) {i:Nat} (hi:i < m.mf.length) (k:Nat) (hk:k < 3):ilt (acrossAt m (i:Int) (k:Int)).1 0=opn m (sideF m.mf[i] (k:Int)):=by
  unfold acrossAt sideAt opn
  rw [sideL_neg,toNat_nat,getD_lt hi,wrapS k (by omega)]
  match k,hk with
  | 0,_=>rfl
  | 1,_=>rfl
  | 2,_=>rfl
namespace rside
noncomputable def bd:Code:=(Tryz.f120.body).getD .skip
noncomputable def X:Ctx U El:=⟨E,tds,zeros,eqs,specOf [(101,rcorner.sp)],100000,44,dspecOf [],fun _=>none⟩
noncomputable def nmR:Norm U:=⟨[],[6,7],[],[],[],[],[]⟩
noncomputable def RR:Kont U El:=fun st=>normK nmR st (retFin [6,7] [])
noncomputable def nm1:Norm U:=⟨[],[],[],[],[],[],[]⟩
noncomputable def nm2:Norm U:=⟨[],[1,2,3,8],[3],[],[],[],[(3,0,.spot),(3,1,.face)]⟩
noncomputable def nm3:Norm U:=⟨[],[1,2,3,8],[3],[],[],[],[(3,0,.spot),(3,1,.face)]⟩
noncomputable def nm4:Norm U:=⟨[],[1,2,3,8,9],[3],[],[],[],[(3,0,.spot),(3,1,.face)]⟩
noncomputable def nm5:Norm U:=⟨[],[1,2,3,8,9],[3],[],[],[],[(3,0,.spot),(3,1,.face)]⟩
abbrev Y1:=R
abbrev Y2:=Int→Int→Int→(List Spot)→(List Face)→R
abbrev Y3:=Int→Int→Int→(List Spot)→(List Face)→R
abbrev Y4:=Int→Int→Int→Int→(List Spot)→(List Face)→R
abbrev Y5:=Int→Int→Int→Int→(List Spot)→(List Face)→R
noncomputable def fr0 (m:Mesh) (a:Int) (b:Int):St U El:=⟨[(0,(.agg [(.lst .spot m.ms),(.lst .face m.mf)])),(1,(.int .i64 a)),(2,(.int .i64 b))],[]⟩
noncomputable def fr1:St U El:=⟨[],[]⟩
noncomputable def fr2 (a1:Int) (b2:Int) (i8:Int) (cA:List Spot) (dA:List Face):St U El:=⟨[(1,(.int .i64 a1)),(2,(.int .i64 b2)),(3,(.ptr 3 0)),(8,(.int .i64 i8))],[(3,(.box 0 [(.lst .spot cA),(.lst .face dA)]))]⟩
noncomputable def fr3 (a1:Int) (b2:Int) (i8:Int) (cA:List Spot) (dA:List Face):St U El:=⟨[(1,(.int .i64 a1)),(2,(.int .i64 b2)),(3,(.ptr 3 0)),(8,(.int .i64 i8))],[(3,(.box 0 [(.lst .spot cA),(.lst .face dA)]))]⟩
noncomputable def fr4 (a1:Int) (b2:Int) (i8:Int) (qA:Int) (cA:List Spot) (dA:List Face):St U El:=⟨[(1,(.int .i64 a1)),(2,(.int .i64 b2)),(3,(.ptr 3 0)),(8,(.int .i64 i8)),(9,(.int .i64 qA))],[(3,(.box 0 [(.lst .spot cA),(.lst .face dA)]))]⟩
noncomputable def fr5 (a1:Int) (b2:Int) (i8:Int) (qA:Int) (cA:List Spot) (dA:List Face):St U El:=⟨[(1,(.int .i64 a1)),(2,(.int .i64 b2)),(3,(.ptr 3 0)),(8,(.int .i64 i8)),(9,(.int .i64 qA))],[(3,(.box 0 [(.lst .spot cA),(.lst .face dA)]))]⟩
noncomputable def sh0 (m:Mesh) (a:Int) (b:Int) (k2:Y2):R :=
  k2 a b (0:Int) m.ms m.mf
noncomputable def sh1:R :=
  some ((.tup [(.int .i64 (-1:Int)),(.int .i64 (0:Int))]),[])
noncomputable def sh2 (a1:Int) (b2:Int) (i8:Int) (cA:List Spot) (dA:List Face) (k1:Y1) (k4:Y4):R :=
  condB (ilt i8 (Int.ofNat (List.length dA))) (k4 a1 b2 i8 (0:Int) cA dA) (k1)
noncomputable def sh3 (a1:Int) (b2:Int) (i8:Int) (cA:List Spot) (dA:List Face) (k2:Y2):R :=
  k2 a1 b2 (IntKind.wrap .i64 (i8+(1:Int))) cA dA
noncomputable def sh4 (a1:Int) (b2:Int) (i8:Int) (qA:Int) (cA:List Spot) (dA:List Face) (k3:Y3) (k5:Y5):R :=
  condB (ilt qA (3:Int)) (chk (inb i8 (List.length dA)) (chk ((ile 0 qA&&ile qA 1000000)) (condB ((cornZ (List.getD dA (Int.toNat i8) d_face) qA) == a1) (chk (inb i8 (List.length dA)) (chk ((ile 0 (IntKind.wrap .i64 (qA+(1:Int)))&&ile (IntKind.wrap .i64 (qA+(1:Int))) 1000000)) (condB ((cornZ (List.getD dA (Int.toNat i8) d_face) (IntKind.wrap .i64 (qA+(1:Int)))) == b2) (some ((.tup [(.int .i64 i8),(.int .i64 qA)]),[])) (k5 a1 b2 i8 qA cA dA)))) (k5 a1 b2 i8 qA cA dA)))) (k3 a1 b2 i8 cA dA)
noncomputable def sh5 (a1:Int) (b2:Int) (i8:Int) (qA:Int) (cA:List Spot) (dA:List Face) (k4:Y4):R :=
  k4 a1 b2 i8 (IntKind.wrap .i64 (qA+(1:Int))) cA dA
noncomputable def it2 (Kb1:Kont U El) (n:Nat):Kont U El:=iter nm2 (fun st' K'=>exec X (cdp [1,0,1,0,0] bd) (.seq none .d (.seq (some nm3) (.block (.seq none .d (.block (.loop nm4 (.seq none .d (.seq (some nm5) .d .d)))))) .d)) st' K' (Eblk 0 (cutK nm1 Kb1) (fun _ _=>none)) RR) n
noncomputable def it4 (Kb1 Kb3:Kont U El) (n:Nat):Kont U El:=iter nm4 (fun st' K'=>exec X (cdp [1,0,1,0,0,1,0,0,1,0,0] bd) (.seq none .d (.seq (some nm5) .d .d)) st' K' (Eblk 2 (cutK nm3 Kb3) (Eblk 1 (cutK nm3 Kb3) (Eblk 0 (cutK nm1 Kb1) (fun _ _=>none)))) RR) n
noncomputable def ct1:Kont U El:=fun st=>exec X (cdp [1,1] bd) .d st RR (fun _ _=>none) RR
noncomputable def ct3 (Kb1 Kb2:Kont U El):Kont U El:=fun st=>exec X (cdp [1,0,1,0,0,1,1] bd) .d st (cutK nm2 Kb2) (Eblk 0 (cutK nm1 Kb1) (fun _ _=>none)) RR
noncomputable def ct5 (Kb1 Kb3 Kb4:Kont U El):Kont U El:=fun st=>exec X (cdp [1,0,1,0,0,1,0,0,1,0,0,1,1] bd) .d st (cutK nm4 Kb4) (Eblk 2 (cutK nm3 Kb3) (Eblk 1 (cutK nm3 Kb3) (Eblk 0 (cutK nm1 Kb1) (fun _ _=>none)))) RR
theorem P0 (m a b):exec X (cdp [] bd) (.seq none .d (.seq (some nm1) (.seq none .d (.block (.loop nm2 (.seq none .d (.seq (some nm3) (.block (.seq none .d (.block (.loop nm4 (.seq none .d (.seq (some nm5) .d .d)))))) .d))))) .d)) (fr0 m a b) RR (fun _ _=>none) RR=sh0 m a b (fun y0 y1 y2 y3 y4=>(hid (it2 (hid ct1) 100000)) (fr2 y0 y1 y2 y3 y4)):=by kernel_rfl
theorem P1:ct1 (fr1)=sh1:=by kernel_rfl
theorem P2 (a1 b2 i8 cA dA) (Kb1 Kb2:Kont U El):exec X (cdp [1,0,1,0,0] bd) (.seq none .d (.seq (some nm3) (.block (.seq none .d (.block (.loop nm4 (.seq none .d (.seq (some nm5) .d .d)))))) .d)) (fr2 a1 b2 i8 cA dA) (cutK nm2 Kb2) (Eblk 0 (cutK nm1 Kb1) (fun _ _=>none)) RR=sh2 a1 b2 i8 cA dA (Kb1 (fr1)) (fun y0 y1 y2 y3 y4 y5=>(hid (it4 Kb1 (hid (ct3 Kb1 Kb2)) 100000)) (fr4 y0 y1 y2 y3 y4 y5)):=by kernel_rfl
theorem P3 (a1 b2 i8 cA dA) (Kb1 Kb2:Kont U El):ct3 Kb1 Kb2 (fr3 a1 b2 i8 cA dA)=sh3 a1 b2 i8 cA dA (fun y0 y1 y2 y3 y4=>Kb2 (fr2 y0 y1 y2 y3 y4)):=by kernel_rfl
theorem P4 (a1 b2 i8 qA cA dA) (Kb1 Kb3 Kb4:Kont U El):exec X (cdp [1,0,1,0,0,1,0,0,1,0,0] bd) (.seq none .d (.seq (some nm5) .d .d)) (fr4 a1 b2 i8 qA cA dA) (cutK nm4 Kb4) (Eblk 2 (cutK nm3 Kb3) (Eblk 1 (cutK nm3 Kb3) (Eblk 0 (cutK nm1 Kb1) (fun _ _=>none)))) RR=sh4 a1 b2 i8 qA cA dA (fun y0 y1 y2 y3 y4=>Kb3 (fr3 y0 y1 y2 y3 y4)) (fun y0 y1 y2 y3 y4 y5=>(hid (ct5 Kb1 Kb3 Kb4)) (fr5 y0 y1 y2 y3 y4 y5)):=by kernel_rfl
theorem P5 (a1 b2 i8 qA cA dA) (Kb1 Kb3 Kb4:Kont U El):ct5 Kb1 Kb3 Kb4 (fr5 a1 b2 i8 qA cA dA)=sh5 a1 b2 i8 qA cA dA (fun y0 y1 y2 y3 y4 y5=>Kb4 (fr4 y0 y1 y2 y3 y4 y5)):=by kernel_rfl
noncomputable def f1:R:=sh1
noncomputable def f3 (k2:Y2) (a1:Int) (b2:Int) (i8:Int) (cA:List Spot) (dA:List Face):R:=sh3 a1 b2 i8 cA dA k2
noncomputable def f5 (k2:Y2) (k4:Y4) (a1:Int) (b2:Int) (i8:Int) (qA:Int) (cA:List Spot) (dA:List Face):R:=sh5 a1 b2 i8 qA cA dA k4
noncomputable def f4 (k2:Y2):Nat→Y4
  | 0=>fun _ _ _ _ _ _=>none
  | n+1=>fun a1 b2 i8 qA cA dA=>sh4 a1 b2 i8 qA cA dA (f3 k2) (f5 k2 (f4 k2 n))
noncomputable def f2:Nat→Y2
  | 0=>fun _ _ _ _ _=>none
  | n+1=>fun a1 b2 i8 cA dA=>sh2 a1 b2 i8 cA dA f1 (f4 (f2 n) 100000)
noncomputable def f0 (m:Mesh) (a:Int) (b:Int):R:=sh0 m a b (f2 100000)
theorem T1:(hid ct1) (fr1)=f1:=by
  refine (congrFun (hid_eq _) _).trans <| (P1).trans ?_
  show _=sh1
  rfl
theorem T3 (KL2:Kont U El) (k2:Y2) (h2:∀ a1 b2 i8 cA dA,KL2 (fr2 a1 b2 i8 cA dA)=k2 a1 b2 i8 cA dA) (a1 b2 i8 cA dA):(hid (ct3 (hid ct1) KL2)) (fr3 a1 b2 i8 cA dA)=f3 k2 a1 b2 i8 cA dA:=by
  refine (congrFun (hid_eq _) _).trans <| (P3 a1 b2 i8 cA dA (hid ct1) KL2).trans ?_
  show _=sh3 a1 b2 i8 cA dA k2
  simp only [h2]
theorem T5 (KL2:Kont U El) (KL4:Kont U El) (k2:Y2) (k4:Y4) (h2:∀ a1 b2 i8 cA dA,KL2 (fr2 a1 b2 i8 cA dA)=k2 a1 b2 i8 cA dA) (h4:∀ a1 b2 i8 qA cA dA,KL4 (fr4 a1 b2 i8 qA cA dA)=k4 a1 b2 i8 qA cA dA) (a1 b2 i8 qA cA dA):(hid (ct5 (hid ct1) (hid (ct3 (hid ct1) KL2)) KL4)) (fr5 a1 b2 i8 qA cA dA)=f5 k2 k4 a1 b2 i8 qA cA dA:=by
  refine (congrFun (hid_eq _) _).trans <| (P5 a1 b2 i8 qA cA dA (hid ct1) (hid (ct3 (hid ct1) KL2)) KL4).trans ?_
  show _=sh5 a1 b2 i8 qA cA dA k4
  simp only [h4]
theorem T4 (KL2:Kont U El) (k2:Y2) (h2:∀ a1 b2 i8 cA dA,KL2 (fr2 a1 b2 i8 cA dA)=k2 a1 b2 i8 cA dA):∀ (n:Nat),∀ a1 b2 i8 qA cA dA,it4 (hid ct1) (hid (ct3 (hid ct1) KL2)) n (fr4 a1 b2 i8 qA cA dA)=f4 k2 n a1 b2 i8 qA cA dA:=by
  intro n
  induction n with
  | zero=>intros; rfl
  | succ n ih =>
    intro a1 b2 i8 qA cA dA
    refine (P4 a1 b2 i8 qA cA dA (hid ct1) (hid (ct3 (hid ct1) KL2)) (it4 (hid ct1) (hid (ct3 (hid ct1) KL2)) n)).trans ?_
    show _=sh4 a1 b2 i8 qA cA dA (f3 k2) (f5 k2 (f4 k2 n))
    simp only [T3 KL2 k2 h2,T5 KL2 (it4 (hid ct1) (hid (ct3 (hid ct1) KL2)) n) k2 (f4 k2 n) h2 ih]
theorem H4 (KL2:Kont U El) (k2:Y2) (h2:∀ a1 b2 i8 cA dA,KL2 (fr2 a1 b2 i8 cA dA)=k2 a1 b2 i8 cA dA) (a1 b2 i8 qA cA dA):hid (it4 (hid ct1) (hid (ct3 (hid ct1) KL2)) 100000) (fr4 a1 b2 i8 qA cA dA)=f4 k2 100000 a1 b2 i8 qA cA dA:=(congrFun (hid_eq _) _).trans (T4 KL2 k2 h2 100000 a1 b2 i8 qA cA dA)
theorem T2:∀ (n:Nat),∀ a1 b2 i8 cA dA,it2 (hid ct1) n (fr2 a1 b2 i8 cA dA)=f2 n a1 b2 i8 cA dA:=by
  intro n
  induction n with
  | zero=>intros; rfl
  | succ n ih =>
    intro a1 b2 i8 cA dA
    refine (P2 a1 b2 i8 cA dA (hid ct1) (it2 (hid ct1) n)).trans ?_
    show _=sh2 a1 b2 i8 cA dA f1 (f4 (f2 n) 100000)
    simp only [T1,H4 (it2 (hid ct1) n) (f2 n) ih]
theorem H2 (a1 b2 i8 cA dA):hid (it2 (hid ct1) 100000) (fr2 a1 b2 i8 cA dA)=f2 100000 a1 b2 i8 cA dA:=(congrFun (hid_eq _) _).trans (T2 100000 a1 b2 i8 cA dA)
theorem T0 (m a b):exec X bd (.seq none .d (.seq (some nm1) (.seq none .d (.block (.loop nm2 (.seq none .d (.seq (some nm3) (.block (.seq none .d (.block (.loop nm4 (.seq none .d (.seq (some nm5) .d .d)))))) .d))))) .d)) (fr0 m a b) RR (fun _ _=>none) RR=f0 m a b:=by
  refine (P0 m a b).trans ?_
  show _=sh0 m a b (f2 100000)
  simp only [H2]
theorem run (m a b):runFn X bd (.seq none .d (.seq (some nm1) (.seq none .d (.block (.loop nm2 (.seq none .d (.seq (some nm3) (.block (.seq none .d (.block (.loop nm4 (.seq none .d (.seq (some nm5) .d .d)))))) .d))))) .d)) nmR [6,7] [] [(.agg [(.lst .spot m.ms),(.lst .face m.mf)]),(.int .i64 a),(.int .i64 b)]=f0 m a b:=T0 m a b
theorem f0_eq (m : Mesh) (a b : Int) (h : sizeOk m = true) : f0 m a b = out2 (sideAt m a b) := by
  simp only [sizeOk,Bool.and_eq_true] at h
  have hn:=nleI h.2
  have st:∀ (K:Y2) (n i k:Nat),i < m.mf.length→(hk:k < 3)→∀ (hi:i < m.mf.length),f4 K (n+1) a b (i:Int) (k:Int) m.ms m.mf=bif sideIs m.mf[i] a b (k:Int) then out2 ((i:Int),(k:Int)) else f4 K n a b (i:Int) ((k+1:Nat):Int) m.ms m.mf:=fun K n i k _ hk hi=>by
    show sh4 a b (i:Int) (k:Int) m.ms m.mf (f3 K) (f5 K (f4 K n))=_
    unfold sh4
    have q:∀ j:Nat,j < 10→(ile 0 (j:Int)&&ile (j:Int) 1000000)=true:=fun j hj=>by rw [ileT (by omega),ileT (by omega)]; rfl
    have e5:f5 K (f4 K n) a b (i:Int) (k:Int) m.ms m.mf=f4 K n a b (i:Int) ((k+1:Nat):Int) m.ms m.mf:=by
      show f4 K n a b (i:Int) (IntKind.wrap .i64 ((k:Int)+1)) m.ms m.mf=_
      rw [wrapS k (by omega)]
    rw [iltT (by omega),condT,inbT hi,chkT,q k (by omega),chkT,chkT,wrapS k (by omega),q (k+1) (by omega),chkT,toNat_nat,getD_lt hi,e5]
    unfold sideIs
    rw [show ((k:Int)+1)=((k+1:Nat):Int) from rfl]
    cases cornZ m.mf[i] (k:Int) == a<;>cases cornZ m.mf[i] ((k+1:Nat):Int) == b<;>rfl
  have lp : ∀ (n i : Nat), m.mf.length < n + i → i ≤ m.mf.length → f2 n a b (i : Int) m.ms m.mf = out2 (sideL a b (m.mf.drop i) i) := by
    intro n
    induction n with
    | zero=>intro i h1 h2; omega
    | succ n ih =>
      intro i h1 h2
      show sh2 a b (i:Int) m.ms m.mf f1 (f4 (f2 n) 100000)=_
      unfold sh2
      by_cases hi:i < m.mf.length
      · rw [iltT (by simp; omega), condT]
        show f4 (f2 n) (99996+1+1+1+1) a b (i:Int) ((0:Nat):Int) m.ms m.mf=_
        rw [st _ _ i 0 hi (by omega) hi,st _ _ i 1 hi (by omega) hi,st _ _ i 2 hi (by omega) hi]
        have e3:f4 (f2 n) (99996+1) a b (i:Int) ((2+1:Nat):Int) m.ms m.mf=out2 (sideL a b (m.mf.drop (i+1)) (i+1)):=by
          show sh4 a b (i:Int) ((3:Nat):Int) m.ms m.mf (f3 (f2 n)) _=_
          unfold sh4
          rw [iltF (by omega),condF]
          show f2 n a b (IntKind.wrap .i64 ((i:Int)+1)) m.ms m.mf=_
          rw [wrapS i (by omega)]
          exact ih (i+1) (by omega) hi
        rw [e3,drop_lt hi]
        simp only [sideL]
        show (bif sideIs m.mf[i] a b 0 then out2 ((i:Int),0) else bif sideIs m.mf[i] a b 1 then out2 ((i:Int),1) else bif sideIs m.mf[i] a b 2 then out2 ((i:Int),2) else _)=_
        cases sideIs m.mf[i] a b 0<;>cases sideIs m.mf[i] a b 1<;>cases sideIs m.mf[i] a b 2<;>rfl
      · have : i = m.mf.length := by omega
        subst this
        rw [iltF (by simp),condF,List.drop_length]
        rfl
  have:=lp 100000 0 (by omega) (by omega)
  rw [List.drop_zero] at this
  exact this
theorem ok:CtxOk Tryz.prog X:=ctxOk tab (spC rcorner.spOk spN) dpN
theorem okM:MOk Tryz.prog X:=fun g sp h=>by cases h
theorem spec (m:Mesh) (a:Int) (b:Int) (h:(sizeOk m)=true):CallSpec Tryz.prog E 120 [(.agg [(.lst .spot m.ms),(.lst .face m.mf)]),(.int .i64 a),(.int .i64 b)] (.tup [(.int .i64 ((sideAt m a b).1)),(.int .i64 ((sideAt m a b).2))]) [] :=
  runFn_sound ok okM Tryz.call120 Tryz.func120 (by kernel_rfl) (by kernel_rfl) (by kernel_rfl) (by show 3≤44; decide) (by decide) (by rfl) ((run m a b).trans (f0_eq m a b h))
noncomputable def sp:Sp U El:=fun args k=>match args with
  | [.agg [.lst .spot m_ms,.lst .face m_mf],.int .i64 a,.int .i64 b]=>chk (sizeOk (⟨m_ms,m_mf⟩:Mesh)) (k (.tup [(.int .i64 ((sideAt (⟨m_ms,m_mf⟩:Mesh) a b).1)),(.int .i64 ((sideAt (⟨m_ms,m_mf⟩:Mesh) a b).2))]) [])
  | _=>none
theorem spOk:SpOk Tryz.prog E 120 sp where
  det:=fun vs=>by
    unfold sp
    split
    · exact det_c _ _ _
    · exact ⟨none,fun _=>rfl⟩
  ok:=fun vs k r h=>by
    unfold sp at h
    split at h
    · obtain ⟨h1, h2⟩ := chk_some h
      exact ⟨_,_,spec ⟨_,_⟩ _ _ h1,h2⟩
    · cases h
end rside
namespace racross
noncomputable def bd:Code:=(Tryz.f103.body).getD .skip
noncomputable def X:Ctx U El:=⟨E,tds,zeros,eqs,specOf [(101,rcorner.sp),(120,rside.sp)],100000,25,dspecOf [],fun _=>none⟩
noncomputable def nmR:Norm U:=⟨[],[6,7],[],[],[],[],[]⟩
noncomputable def RR:Kont U El:=fun st=>normK nmR st (retFin [6,7] [])
noncomputable def fr0 (m:Mesh) (fc:Int) (sd:Int):St U El:=⟨[(0,(.agg [(.lst .spot m.ms),(.lst .face m.mf)])),(1,(.int .i64 fc)),(2,(.int .i64 sd))],[]⟩
noncomputable def sh0 (m:Mesh) (fc:Int) (sd:Int):R :=
  chk (inb fc (List.length m.mf)) (chk ((ile 0 (IntKind.wrap .i64 (sd+(1:Int)))&&ile (IntKind.wrap .i64 (sd+(1:Int))) 1000000)) (chk ((ile 0 sd&&ile sd 1000000)) (chk (sizeOk m) (some ((.tup [(.int .i64 ((sideAt m (cornZ (List.getD m.mf (Int.toNat fc) d_face) (IntKind.wrap .i64 (sd+(1:Int)))) (cornZ (List.getD m.mf (Int.toNat fc) d_face) sd)).1)),(.int .i64 ((sideAt m (cornZ (List.getD m.mf (Int.toNat fc) d_face) (IntKind.wrap .i64 (sd+(1:Int)))) (cornZ (List.getD m.mf (Int.toNat fc) d_face) sd)).2))]),[])))))
theorem P0 (m fc sd):exec X (cdp [] bd) .d (fr0 m fc sd) RR (fun _ _=>none) RR=sh0 m fc sd:=by kernel_rfl
noncomputable def f0 (m:Mesh) (fc:Int) (sd:Int):R:=sh0 m fc sd
theorem T0 (m fc sd):exec X bd .d (fr0 m fc sd) RR (fun _ _=>none) RR=f0 m fc sd:=by
  refine (P0 m fc sd).trans ?_
  show _=sh0 m fc sd
  rfl
theorem run (m fc sd):runFn X bd .d nmR [6,7] [] [(.agg [(.lst .spot m.ms),(.lst .face m.mf)]),(.int .i64 fc),(.int .i64 sd)]=f0 m fc sd:=T0 m fc sd
theorem f0_eq (m:Mesh) (fc sd:Int) (h:(sizeOk m&&(inb fc (List.length (Mesh.mf m))&&(ile 0 sd&&ile sd 1000)))=true):f0 m fc sd=out2 (acrossAt m fc sd):=by
  simp only [Bool.and_eq_true] at h
  have h1:=ileI h.2.2.1; have h2:=ileI h.2.2.2
  show sh0 m fc sd=_
  unfold sh0
  have hw:IntKind.wrap .i64 (sd+1)=sd+1:=wrapI (by omega) (by omega)
  rw [h.1,h.2.1,chkT,hw,ileT (show 0≤sd+1 by omega),ileT (show sd+1≤1000000 by omega),ileT h1,ileT (show sd≤1000000 by omega),← hw]
  rfl
theorem ok:CtxOk Tryz.prog X:=ctxOk tab (spC rcorner.spOk (spC rside.spOk spN)) dpN
theorem okM:MOk Tryz.prog X:=fun g sp h=>by cases h
theorem spec (m:Mesh) (fc:Int) (sd:Int) (h:((sizeOk m&&(inb fc (List.length (Mesh.mf m))&&(ile 0 sd&&ile sd 1000))))=true):CallSpec Tryz.prog E 103 [(.agg [(.lst .spot m.ms),(.lst .face m.mf)]),(.int .i64 fc),(.int .i64 sd)] (.tup [(.int .i64 ((acrossAt m fc sd).1)),(.int .i64 ((acrossAt m fc sd).2))]) [] :=
  runFn_sound ok okM Tryz.call103 Tryz.func103 (by kernel_rfl) (by kernel_rfl) (by kernel_rfl) (by show 3≤25; decide) (by decide) (by rfl) ((run m fc sd).trans (f0_eq m fc sd h))
noncomputable def sp:Sp U El:=fun args k=>match args with
  | [.agg [.lst .spot m_ms,.lst .face m_mf],.int .i64 fc,.int .i64 sd]=>chk ((sizeOk (⟨m_ms,m_mf⟩:Mesh)&&(inb fc (List.length (Mesh.mf (⟨m_ms,m_mf⟩:Mesh)))&&(ile 0 sd&&ile sd 1000)))) (k (.tup [(.int .i64 ((acrossAt (⟨m_ms,m_mf⟩:Mesh) fc sd).1)),(.int .i64 ((acrossAt (⟨m_ms,m_mf⟩:Mesh) fc sd).2))]) [])
  | _=>none
theorem spOk:SpOk Tryz.prog E 103 sp where
  det:=fun vs=>by
    unfold sp
    split
    · exact det_c _ _ _
    · exact ⟨none,fun _=>rfl⟩
  ok:=fun vs k r h=>by
    unfold sp at h
    split at h
    · obtain ⟨h1, h2⟩ := chk_some h
      exact ⟨_,_,spec ⟨_,_⟩ _ _ h1,h2⟩
    · cases h
end racross
namespace rneigh
noncomputable def bd:Code:=(Tryz.f73.body).getD .skip
noncomputable def X:Ctx U El:=⟨E,tds,zeros,eqs,specOf [(103,racross.sp)],100000,44,dspecOf [],fun _=>none⟩
noncomputable def nmR:Norm U:=⟨[],[2],[],[(2,.n3)],[],[],[]⟩
noncomputable def RR:Kont U El:=fun st=>normK nmR st (retFin [2] [])
noncomputable def nm1:Norm U:=⟨[(3,.n3)],[3],[3],[],[],[],[]⟩
noncomputable def nm2:Norm U:=⟨[(3,.n3)],[1,3,4],[3,1],[],[],[],[(1,0,.spot),(1,1,.face)]⟩
abbrev Y1:=(List N3)→R
abbrev Y2:=(List N3)→Int→(List Spot)→(List Face)→R
noncomputable def fr0 (m:Mesh):St U El:=⟨[(0,(.agg [(.lst .spot m.ms),(.lst .face m.mf)]))],[]⟩
noncomputable def fr1 (nA:List N3):St U El:=⟨[(3,(.ful 3))],[(3,(.rows .n3 nA))]⟩
noncomputable def fr2 (nA:List N3) (i4:Int) (pA:List Spot) (oA:List Face):St U El:=⟨[(1,(.ptr 1 0)),(3,(.ful 3)),(4,(.int .i64 i4))],[(3,(.rows .n3 nA)),(1,(.box 0 [(.lst .spot pA),(.lst .face oA)]))]⟩
noncomputable def sh0 (m:Mesh) (k2:Y2):R :=
  k2 ([]:List N3) (0:Int) m.ms m.mf
noncomputable def sh1 (nA:List N3):R :=
  some ((.lst .n3 nA),[])
noncomputable def sh2 (nA:List N3) (i4:Int) (pA:List Spot) (oA:List Face) (k1:Y1) (k2:Y2):R :=
  condB (ilt i4 (Int.ofNat (List.length oA))) (chk ((sizeOk (⟨pA,oA⟩:Mesh)&&(inb i4 (List.length (Mesh.mf (⟨pA,oA⟩:Mesh)))&&(ile 0 (0:Int)&&ile (0:Int) 1000)))) (chk ((sizeOk (⟨pA,oA⟩:Mesh)&&(inb i4 (List.length (Mesh.mf (⟨pA,oA⟩:Mesh)))&&(ile 0 (1:Int)&&ile (1:Int) 1000)))) (chk ((sizeOk (⟨pA,oA⟩:Mesh)&&(inb i4 (List.length (Mesh.mf (⟨pA,oA⟩:Mesh)))&&(ile 0 (2:Int)&&ile (2:Int) 1000)))) (chk (nle ((List.length nA+List.length ([(⟨((acrossAt (⟨pA,oA⟩:Mesh) i4 (0:Int)).1),((acrossAt (⟨pA,oA⟩:Mesh) i4 (1:Int)).1),((acrossAt (⟨pA,oA⟩:Mesh) i4 (2:Int)).1)⟩:N3)]:List N3)) * 24) 140737488355328&&nle (List.length nA+List.length ([(⟨((acrossAt (⟨pA,oA⟩:Mesh) i4 (0:Int)).1),((acrossAt (⟨pA,oA⟩:Mesh) i4 (1:Int)).1),((acrossAt (⟨pA,oA⟩:Mesh) i4 (2:Int)).1)⟩:N3)]:List N3)) 9223372036854775807) (k2 (nA++([(⟨((acrossAt (⟨pA,oA⟩:Mesh) i4 (0:Int)).1),((acrossAt (⟨pA,oA⟩:Mesh) i4 (1:Int)).1),((acrossAt (⟨pA,oA⟩:Mesh) i4 (2:Int)).1)⟩:N3)]:List N3)) (IntKind.wrap .i64 (i4+(1:Int))) pA oA))))) (k1 nA)
noncomputable def it2 (Kb1:Kont U El) (n:Nat):Kont U El:=iter nm2 (fun st' K'=>exec X (cdp [1,1,0,1,0,0] bd) .d st' K' (Eblk 0 (cutK nm1 Kb1) (fun _ _=>none)) RR) n
noncomputable def ct1:Kont U El:=fun st=>exec X (cdp [1,1,1] bd) .d st RR (fun _ _=>none) RR
theorem P0 (m):exec X (cdp [] bd) (.seq none .d (.seq none .d (.seq (some nm1) (.seq none .d (.block (.loop nm2 .d))) .d))) (fr0 m) RR (fun _ _=>none) RR=sh0 m (fun y0 y1 y2 y3=>(hid (it2 (hid ct1) 100000)) (fr2 y0 y1 y2 y3)):=by kernel_rfl
theorem P1 (nA):ct1 (fr1 nA)=sh1 nA:=by kernel_rfl
theorem P2 (nA i4 pA oA) (Kb1 Kb2:Kont U El):exec X (cdp [1,1,0,1,0,0] bd) .d (fr2 nA i4 pA oA) (cutK nm2 Kb2) (Eblk 0 (cutK nm1 Kb1) (fun _ _=>none)) RR=sh2 nA i4 pA oA (fun y0=>Kb1 (fr1 y0)) (fun y0 y1 y2 y3=>Kb2 (fr2 y0 y1 y2 y3)):=by kernel_rfl
noncomputable def f1 (nA:List N3):R:=sh1 nA
noncomputable def f2:Nat→Y2
  | 0=>fun _ _ _ _=>none
  | n+1=>fun nA i4 pA oA=>sh2 nA i4 pA oA f1 (f2 n)
noncomputable def f0 (m:Mesh):R:=sh0 m (f2 100000)
theorem T1 (nA):(hid ct1) (fr1 nA)=f1 nA:=by
  refine (congrFun (hid_eq _) _).trans <| (P1 nA).trans ?_
  show _=sh1 nA
  rfl
theorem T2:∀ (n:Nat),∀ nA i4 pA oA,it2 (hid ct1) n (fr2 nA i4 pA oA)=f2 n nA i4 pA oA:=by
  intro n
  induction n with
  | zero=>intros; rfl
  | succ n ih =>
    intro nA i4 pA oA
    refine (P2 nA i4 pA oA (hid ct1) (it2 (hid ct1) n)).trans ?_
    show _=sh2 nA i4 pA oA f1 (f2 n)
    simp only [T1,ih]
theorem H2 (nA i4 pA oA):hid (it2 (hid ct1) 100000) (fr2 nA i4 pA oA)=f2 100000 nA i4 pA oA:=(congrFun (hid_eq _) _).trans (T2 100000 nA i4 pA oA)
theorem T0 (m):exec X bd (.seq none .d (.seq none .d (.seq (some nm1) (.seq none .d (.block (.loop nm2 .d))) .d))) (fr0 m) RR (fun _ _=>none) RR=f0 m:=by
  refine (P0 m).trans ?_
  show _=sh0 m (f2 100000)
  simp only [H2]
theorem run (m):runFn X bd (.seq none .d (.seq none .d (.seq (some nm1) (.seq none .d (.block (.loop nm2 .d))) .d))) nmR [2] [] [(.agg [(.lst .spot m.ms),(.lst .face m.mf)])]=f0 m:=T0 m
theorem f0_eq (m : Mesh) (h : sizeOk m = true) : f0 m = some ((.lst .n3 (rneighL m)), []) := by
  have h':=h
  simp only [sizeOk,Bool.and_eq_true] at h'
  have hn:=nleI h'.2
  have lp:∀ (n i:Nat) (out:List N3),m.mf.length < n+i→i≤m.mf.length→out.length=i→f2 n out (i:Int) m.ms m.mf=f1 (out++(List.range' i (m.mf.length - i)).map (rn3 m)):=by
    intro n
    induction n with
    | zero=>intro i out h1 h2; omega
    | succ n ih =>
      intro i out h1 h2 h3
      show sh2 out (i:Int) m.ms m.mf f1 (f2 n)=_
      unfold sh2
      by_cases hi:i < m.mf.length
      · have hs : sizeOk (⟨m.ms, m.mf⟩ : Mesh) = true := h
        rw [iltT (by simp; omega),condT,hs,inbT (show i < (Mesh.mf ⟨m.ms,m.mf⟩).length from hi),show (ile 0 (0:Int)&&ile (0:Int) 1000)=true from rfl,show (ile 0 (1:Int)&&ile (1:Int) 1000)=true from rfl,show (ile 0 (2:Int)&&ile (2:Int) 1000)=true from rfl]
        simp only [Bool.and_self,chkT]
        rw [nleT (show (List.length out+_) * 24≤140737488355328 by simp; omega),nleT (show List.length out+_≤9223372036854775807 by simp; omega),wrapS i (by omega),Bool.and_self,chkT]
        show f2 n (out++[rn3 m i]) ((i+1:Nat):Int) m.ms m.mf=_
        rw [ih (i+1) _ (by omega) hi (by simp [h3]),List.append_assoc]
        congr 2
        rw [show m.mf.length - i=(m.mf.length - (i+1))+1 by omega,List.range'_succ]
        rfl
      · have : i = m.mf.length := by omega
        subst this
        rw [iltF (by simp),condF,Nat.sub_self]
        simp
  have:=lp 100000 0 [] (by omega) (by omega) rfl
  rw [Nat.sub_zero,List.nil_append] at this
  exact this
theorem ok:CtxOk Tryz.prog X:=ctxOk tab (spC racross.spOk spN) dpN
theorem okM:MOk Tryz.prog X:=fun g sp h=>by cases h
theorem spec (m:Mesh) (h:(sizeOk m)=true):CallSpec Tryz.prog E 73 [(.agg [(.lst .spot m.ms),(.lst .face m.mf)])] (.lst .n3 (rneighL m)) [] :=
  runFn_sound ok okM Tryz.call73 Tryz.func73 (by kernel_rfl) (by kernel_rfl) (by kernel_rfl) (by show 1≤44; decide) (by decide) (by rfl) ((run m).trans (f0_eq m h))
noncomputable def sp:Sp U El:=fun args k=>match args with
  | [.agg [.lst .spot m_ms,.lst .face m_mf]]=>chk (sizeOk (⟨m_ms,m_mf⟩:Mesh)) (k (.lst .n3 (rneighL (⟨m_ms,m_mf⟩:Mesh))) [])
  | _=>none
theorem spOk:SpOk Tryz.prog E 73 sp where
  det:=fun vs=>by
    unfold sp
    split
    · exact det_c _ _ _
    · exact ⟨none,fun _=>rfl⟩
  ok:=fun vs k r h=>by
    unfold sp at h
    split at h
    · obtain ⟨h1, h2⟩ := chk_some h
      exact ⟨_,_,spec ⟨_,_⟩ h1,h2⟩
    · cases h
end rneigh
namespace rsides
noncomputable def bd:Code:=(Tryz.f74.body).getD .skip
noncomputable def X:Ctx U El:=⟨E,tds,zeros,eqs,specOf [],100000,19,dspecOf [],fun _=>none⟩
noncomputable def nmR:Norm U:=⟨[(2,.pr)],[2],[2],[],[],[],[]⟩
noncomputable def RR:Kont U El:=fun st=>normK nmR st (retFin [2] [2])
noncomputable def fr0 (f:Face):St U El:=⟨[(0,(.agg [(.int .i64 f.fa),(.int .i64 f.fb),(.int .i64 f.fc),(.int .i64 f.fk)]))],[]⟩
noncomputable def sh0 (f:Face):R :=
  some ((.ful 0),[(0,.rows .pr ([(⟨f.fa,f.fb⟩:Pr),(⟨f.fb,f.fc⟩:Pr),(⟨f.fc,f.fa⟩:Pr)]:List Pr))])
theorem P0 (f):exec X (cdp [] bd) .d (fr0 f) RR (fun _ _=>none) RR=sh0 f:=by kernel_rfl
noncomputable def f0 (f:Face):R:=sh0 f
theorem T0 (f):exec X bd .d (fr0 f) RR (fun _ _=>none) RR=f0 f:=by
  refine (P0 f).trans ?_
  show _=sh0 f
  rfl
theorem run (f):runFn X bd .d nmR [2] [2] [(.agg [(.int .i64 f.fa),(.int .i64 f.fb),(.int .i64 f.fc),(.int .i64 f.fk)])]=f0 f:=T0 f
theorem f0_eq (f:Face):f0 f=some ((.ful 0),[(0,.rows .pr (sidesL f))]):=rfl
theorem ok:CtxOk Tryz.prog X:=ctxOk tab spN dpN
theorem okM:MOk Tryz.prog X:=fun g sp h=>by cases h
theorem spec (f:Face):CallSpec Tryz.prog E 74 [(.agg [(.int .i64 f.fa),(.int .i64 f.fb),(.int .i64 f.fc),(.int .i64 f.fk)])] (.ful 0) [(0,.rows .pr (sidesL f))] :=
  runFn_sound ok okM Tryz.call74 Tryz.func74 (by kernel_rfl) (by kernel_rfl) (by kernel_rfl) (by show 1≤19; decide) (by decide) (by rfl) ((run f).trans (f0_eq f))
noncomputable def sp:Sp U El:=fun args k=>match args with
  | [.agg [.int .i64 f_fa,.int .i64 f_fb,.int .i64 f_fc,.int .i64 f_fk]]=>k (.ful 0) [(0,.rows .pr (sidesL (⟨f_fa,f_fb,f_fc,f_fk⟩:Face)))]
  | _=>none
theorem spOk:SpOk Tryz.prog E 74 sp where
  det:=fun vs=>by
    unfold sp
    split
    · exact ⟨some (_,_),fun _=>rfl⟩
    · exact ⟨none,fun _=>rfl⟩
  ok:=fun vs k r h=>by
    unfold sp at h
    split at h
    · exact ⟨_,_,spec ⟨_,_,_,_⟩,h⟩
    · cases h
end rsides
theorem steep {m:Mesh} (hv:validM m=true) (t:Int) (ht:tolOk t=true) (p:Pr):ilt t (IntKind.wrap .i64 (zOf m p.p0 - zOf m p.p1))=ilt t (zOf m p.p0 - zOf m p.p1) ∧
    ilt t (IntKind.wrap .i64 (0 - IntKind.wrap .i64 (zOf m p.p0 - zOf m p.p1)))=ilt (zOf m p.p0 - zOf m p.p1) (0 - t)∧ilt (IntKind.wrap .i64 (zOf m p.p0 - zOf m p.p1)) (IntKind.wrap .i64 (0 - t))=ilt (zOf m p.p0 - zOf m p.p1) (0 - t):=by
  have h1:=z_range hv p.p0; have h2:=z_range hv p.p1
  simp only [tolOk,Bool.and_eq_true] at ht
  have t1:=ileI ht.1; have t2:=ileI ht.2
  rw [wrapI (x:=zOf m p.p0 - zOf m p.p1) (by omega) (by omega),wrapI (x:=0 - (zOf m p.p0 - zOf m p.p1)) (by omega) (by omega),wrapI (x:=0 - t) (by omega) (by omega)]
  refine ⟨rfl,?_,rfl⟩
  unfold ilt
  congr 1
  apply propext
  omega
noncomputable def tA (s:Int) (f:Face):Bool:=(sidesL f).any (tch s)
noncomputable def tB (m:Mesh) (t s:Int) (f:Face):Bool:=(sidesL f).any fun p=>tch s p&&badS m t p
theorem flat_eq (m:Mesh) (t s:Int):flatB m t s=(!(m.mf.any (tB m t s))&&m.mf.any (tA s)):=by
  unfold flatB allS
  rw [List.any_flatMap,List.any_flatMap,Bool.and_comm]
  rfl
namespace flat
noncomputable def bd:Code:=(Tryz.f42.body).getD .skip
noncomputable def X:Ctx U El:=⟨E,tds,zeros,eqs,specOf [(73,rneigh.sp),(74,rsides.sp)],100000,84,dspecOf [],fun _=>none⟩
noncomputable def nmR:Norm U:=⟨[],[6],[],[],[],[],[]⟩
noncomputable def RR:Kont U El:=fun st=>normK nmR st (retFin [6] [])
noncomputable def nm1:Norm U:=⟨[],[8],[],[],[],[],[]⟩
noncomputable def nm2:Norm U:=⟨[],[1,2,3,7,8,9],[3],[],[],[],[(3,0,.spot),(3,1,.face)]⟩
noncomputable def nm3:Norm U:=⟨[],[1,2,3,7,8,9],[3],[],[],[],[(3,0,.spot),(3,1,.face)]⟩
noncomputable def nm4:Norm U:=⟨[(10,.pr)],[1,2,3,7,8,9,10,11],[10,3],[],[],[],[(3,0,.spot),(3,1,.face)]⟩
noncomputable def nm5:Norm U:=⟨[(10,.pr)],[1,2,3,7,8,9,10,11],[10,3],[],[],[],[(3,0,.spot),(3,1,.face)]⟩
noncomputable def nm6:Norm U:=⟨[(10,.pr)],[1,2,3,7,9,10,11,12,13],[10,3],[],[],[],[(3,0,.spot),(3,1,.face)]⟩
abbrev Y1:=Bool→R
abbrev Y2:=Int→Int→(List N3)→Bool→Int→(List Spot)→(List Face)→R
abbrev Y3:=Int→Int→(List N3)→Bool→Int→(List Spot)→(List Face)→R
abbrev Y4:=Int→Int→(List N3)→Bool→Int→(List Pr)→Int→(List Spot)→(List Face)→R
abbrev Y5:=Int→Int→(List N3)→Bool→Int→(List Pr)→Int→(List Spot)→(List Face)→R
abbrev Y6:=Int→Int→(List N3)→Int→(List Pr)→Int→Int→Int→(List Spot)→(List Face)→R
noncomputable def fr0 (m:Mesh) (p:Int) (t:Int):St U El:=⟨[(0,(.agg [(.lst .spot m.ms),(.lst .face m.mf)])),(1,(.int .i64 p)),(2,(.int .i64 t))],[]⟩
noncomputable def fr1 (iA:Bool):St U El:=⟨[(8,(.bool iA))],[]⟩
noncomputable def fr2 (gA:Int) (aA:Int) (fA:List N3) (iA:Bool) (i9:Int) (cA:List Spot) (dA:List Face):St U El:=⟨[(1,(.int .i64 gA)),(2,(.int .i64 aA)),(3,(.ptr 3 0)),(7,(.lst .n3 fA)),(8,(.bool iA)),(9,(.int .i64 i9))],[(3,(.box 0 [(.lst .spot cA),(.lst .face dA)]))]⟩
noncomputable def fr3 (gA:Int) (aA:Int) (fA:List N3) (iA:Bool) (i9:Int) (cA:List Spot) (dA:List Face):St U El:=⟨[(1,(.int .i64 gA)),(2,(.int .i64 aA)),(3,(.ptr 3 0)),(7,(.lst .n3 fA)),(8,(.bool iA)),(9,(.int .i64 i9))],[(3,(.box 0 [(.lst .spot cA),(.lst .face dA)]))]⟩
noncomputable def fr4 (gA:Int) (aA:Int) (fA:List N3) (iA:Bool) (i9:Int) (eA:List Pr) (jA:Int) (cA:List Spot) (dA:List Face):St U El:=⟨[(1,(.int .i64 gA)),(2,(.int .i64 aA)),(3,(.ptr 3 0)),(7,(.lst .n3 fA)),(8,(.bool iA)),(9,(.int .i64 i9)),(10,(.ful 10)),(11,(.int .i64 jA))],[(10,(.rows .pr eA)),(3,(.box 0 [(.lst .spot cA),(.lst .face dA)]))]⟩
noncomputable def fr5 (gA:Int) (aA:Int) (fA:List N3) (iA:Bool) (i9:Int) (eA:List Pr) (jA:Int) (cA:List Spot) (dA:List Face):St U El:=⟨[(1,(.int .i64 gA)),(2,(.int .i64 aA)),(3,(.ptr 3 0)),(7,(.lst .n3 fA)),(8,(.bool iA)),(9,(.int .i64 i9)),(10,(.ful 10)),(11,(.int .i64 jA))],[(10,(.rows .pr eA)),(3,(.box 0 [(.lst .spot cA),(.lst .face dA)]))]⟩
noncomputable def fr6 (gA:Int) (aA:Int) (fA:List N3) (i9:Int) (eA:List Pr) (jA:Int) (vA:Int) (wA:Int) (cA:List Spot) (dA:List Face):St U El:=⟨[(1,(.int .i64 gA)),(2,(.int .i64 aA)),(3,(.ptr 3 0)),(7,(.lst .n3 fA)),(9,(.int .i64 i9)),(10,(.ful 10)),(11,(.int .i64 jA)),(12,(.int .i64 vA)),(13,(.int .i64 wA))],[(10,(.rows .pr eA)),(3,(.box 0 [(.lst .spot cA),(.lst .face dA)]))]⟩
noncomputable def sh0 (m:Mesh) (p:Int) (t:Int) (k2:Y2):R :=
  chk (sizeOk m) (k2 p t (rneighL m) false (0:Int) m.ms m.mf)
noncomputable def sh1 (iA:Bool):R :=
  some ((.bool iA),[])
noncomputable def sh2 (gA:Int) (aA:Int) (fA:List N3) (iA:Bool) (i9:Int) (cA:List Spot) (dA:List Face) (k1:Y1) (k4:Y4):R :=
  condB (ilt i9 (Int.ofNat (List.length dA))) (chk (inb i9 (List.length dA)) (k4 gA aA fA iA i9 (sidesL (List.getD dA (Int.toNat i9) d_face)) (0:Int) cA dA)) (k1 iA)
noncomputable def sh3 (gA:Int) (aA:Int) (fA:List N3) (iA:Bool) (i9:Int) (cA:List Spot) (dA:List Face) (k2:Y2):R :=
  k2 gA aA fA iA (IntKind.wrap .i64 (i9+(1:Int))) cA dA
noncomputable def sh4 (gA:Int) (aA:Int) (fA:List N3) (iA:Bool) (i9:Int) (eA:List Pr) (jA:Int) (cA:List Spot) (dA:List Face) (k3:Y3) (k5:Y5) (k6:Y6):R :=
  condB (ilt jA (3:Int)) (chk (inb jA (List.length eA)) (chk (nlt (Int.toNat jA) (List.length eA)) (chk (inb jA (List.length eA)) (chk (nlt (Int.toNat jA) (List.length eA)) (condB ((List.getD eA (Int.toNat jA) d_pr).p0 != gA) (condB ((List.getD eA (Int.toNat jA) d_pr).p1 != gA) (k5 gA aA fA iA i9 eA jA cA dA) (k6 gA aA fA i9 eA jA ((List.getD eA (Int.toNat jA) d_pr).p0) ((List.getD eA (Int.toNat jA) d_pr).p1) cA dA)) (k6 gA aA fA i9 eA jA ((List.getD eA (Int.toNat jA) d_pr).p0) ((List.getD eA (Int.toNat jA) d_pr).p1) cA dA)))))) (k3 gA aA fA iA i9 cA dA)
noncomputable def sh5 (gA:Int) (aA:Int) (fA:List N3) (iA:Bool) (i9:Int) (eA:List Pr) (jA:Int) (cA:List Spot) (dA:List Face) (k4:Y4):R :=
  k4 gA aA fA iA i9 eA (IntKind.wrap .i64 (jA+(1:Int))) cA dA
noncomputable def sh6 (gA:Int) (aA:Int) (fA:List N3) (i9:Int) (eA:List Pr) (jA:Int) (vA:Int) (wA:Int) (cA:List Spot) (dA:List Face) (k5:Y5):R :=
  chk (inb vA (List.length cA)) (chk (inb wA (List.length cA)) (chk (inb i9 (List.length fA)) (condB (jA == (0:Int)) (condB (ilt ((List.getD fA (Int.toNat i9) d_n3).n0) (0:Int)) (some ((.bool false),[])) (condB (ilt aA (IntKind.wrap .i64 ((List.getD cA (Int.toNat vA) d_spot).pz - (List.getD cA (Int.toNat wA) d_spot).pz))) (some ((.bool false),[])) (condB (ilt aA (IntKind.wrap .i64 ((0:Int) - (IntKind.wrap .i64 ((List.getD cA (Int.toNat vA) d_spot).pz - (List.getD cA (Int.toNat wA) d_spot).pz))))) (some ((.bool false),[])) (k5 gA aA fA true i9 eA jA cA dA)))) (condB (jA == (1:Int)) (condB (ilt ((List.getD fA (Int.toNat i9) d_n3).n1) (0:Int)) (some ((.bool false),[])) (condB (ilt aA (IntKind.wrap .i64 ((List.getD cA (Int.toNat vA) d_spot).pz - (List.getD cA (Int.toNat wA) d_spot).pz))) (some ((.bool false),[])) (condB (ilt aA (IntKind.wrap .i64 ((0:Int) - (IntKind.wrap .i64 ((List.getD cA (Int.toNat vA) d_spot).pz - (List.getD cA (Int.toNat wA) d_spot).pz))))) (some ((.bool false),[])) (k5 gA aA fA true i9 eA jA cA dA)))) (condB (jA == (2:Int)) (condB (ilt ((List.getD fA (Int.toNat i9) d_n3).n2) (0:Int)) (some ((.bool false),[])) (condB (ilt aA (IntKind.wrap .i64 ((List.getD cA (Int.toNat vA) d_spot).pz - (List.getD cA (Int.toNat wA) d_spot).pz))) (some ((.bool false),[])) (condB (ilt aA (IntKind.wrap .i64 ((0:Int) - (IntKind.wrap .i64 ((List.getD cA (Int.toNat vA) d_spot).pz - (List.getD cA (Int.toNat wA) d_spot).pz))))) (some ((.bool false),[])) (k5 gA aA fA true i9 eA jA cA dA)))) (none))))))
noncomputable def it2 (Kb1:Kont U El) (n:Nat):Kont U El:=iter nm2 (fun st' K'=>exec X (cdp [1,1,1,0,1,0,0] bd) (.seq none .d (.seq (some nm3) (.block (.seq none .d (.seq none .d (.block (.loop nm4 (.seq none .d (.seq (some nm5) (.block (.seq none .d (.seq (some nm6) .d .d))) .d))))))) .d)) st' K' (Eblk 0 (cutK nm1 Kb1) (fun _ _=>none)) RR) n
noncomputable def it4 (Kb1 Kb3:Kont U El) (n:Nat):Kont U El:=iter nm4 (fun st' K'=>exec X (cdp [1,1,1,0,1,0,0,1,0,0,1,1,0,0] bd) (.seq none .d (.seq (some nm5) (.block (.seq none .d (.seq (some nm6) .d .d))) .d)) st' K' (Eblk 2 (cutK nm3 Kb3) (Eblk 1 (cutK nm3 Kb3) (Eblk 0 (cutK nm1 Kb1) (fun _ _=>none)))) RR) n
noncomputable def ct1:Kont U El:=fun st=>exec X (cdp [1,1,1,1] bd) .d st RR (fun _ _=>none) RR
noncomputable def ct3 (Kb1 Kb2:Kont U El):Kont U El:=fun st=>exec X (cdp [1,1,1,0,1,0,0,1,1] bd) .d st (cutK nm2 Kb2) (Eblk 0 (cutK nm1 Kb1) (fun _ _=>none)) RR
noncomputable def ct5 (Kb1 Kb3 Kb4:Kont U El):Kont U El:=fun st=>exec X (cdp [1,1,1,0,1,0,0,1,0,0,1,1,0,0,1,1] bd) .d st (cutK nm4 Kb4) (Eblk 2 (cutK nm3 Kb3) (Eblk 1 (cutK nm3 Kb3) (Eblk 0 (cutK nm1 Kb1) (fun _ _=>none)))) RR
noncomputable def ct6 (Kb1 Kb3 Kb5:Kont U El):Kont U El:=fun st=>exec X (cdp [1,1,1,0,1,0,0,1,0,0,1,1,0,0,1,0,0,1,1] bd) .d st (cutK nm5 Kb5) (Eblk 3 (cutK nm5 Kb5) (Eblk 2 (cutK nm3 Kb3) (Eblk 1 (cutK nm3 Kb3) (Eblk 0 (cutK nm1 Kb1) (fun _ _=>none))))) RR
theorem P0 (m p t):exec X (cdp [] bd) (.seq none .d (.seq none .d (.seq none .d (.seq (some nm1) (.seq none .d (.block (.loop nm2 (.seq none .d (.seq (some nm3) (.block (.seq none .d (.seq none .d (.block (.loop nm4 (.seq none .d (.seq (some nm5) (.block (.seq none .d (.seq (some nm6) .d .d))) .d))))))) .d))))) .d)))) (fr0 m p t) RR (fun _ _=>none) RR=sh0 m p t (fun y0 y1 y2 y3 y4 y5 y6=>(hid (it2 (hid ct1) 100000)) (fr2 y0 y1 y2 y3 y4 y5 y6)):=by kernel_rfl
theorem P1 (iA):ct1 (fr1 iA)=sh1 iA:=by kernel_rfl
theorem P2 (gA aA fA iA i9 cA dA) (Kb1 Kb2:Kont U El):exec X (cdp [1,1,1,0,1,0,0] bd) (.seq none .d (.seq (some nm3) (.block (.seq none .d (.seq none .d (.block (.loop nm4 (.seq none .d (.seq (some nm5) (.block (.seq none .d (.seq (some nm6) .d .d))) .d))))))) .d)) (fr2 gA aA fA iA i9 cA dA) (cutK nm2 Kb2) (Eblk 0 (cutK nm1 Kb1) (fun _ _=>none)) RR=sh2 gA aA fA iA i9 cA dA (fun y0=>Kb1 (fr1 y0)) (fun y0 y1 y2 y3 y4 y5 y6 y7 y8=>(hid (it4 Kb1 (hid (ct3 Kb1 Kb2)) 100000)) (fr4 y0 y1 y2 y3 y4 y5 y6 y7 y8)):=by kernel_rfl
theorem P3 (gA aA fA iA i9 cA dA) (Kb1 Kb2:Kont U El):ct3 Kb1 Kb2 (fr3 gA aA fA iA i9 cA dA)=sh3 gA aA fA iA i9 cA dA (fun y0 y1 y2 y3 y4 y5 y6=>Kb2 (fr2 y0 y1 y2 y3 y4 y5 y6)):=by kernel_rfl
theorem P4 (gA aA fA iA i9 eA jA cA dA) (Kb1 Kb3 Kb4:Kont U El):exec X (cdp [1,1,1,0,1,0,0,1,0,0,1,1,0,0] bd) (.seq none .d (.seq (some nm5) (.block (.seq none .d (.seq (some nm6) .d .d))) .d)) (fr4 gA aA fA iA i9 eA jA cA dA) (cutK nm4 Kb4) (Eblk 2 (cutK nm3 Kb3) (Eblk 1 (cutK nm3 Kb3) (Eblk 0 (cutK nm1 Kb1) (fun _ _=>none)))) RR=sh4 gA aA fA iA i9 eA jA cA dA (fun y0 y1 y2 y3 y4 y5 y6=>Kb3 (fr3 y0 y1 y2 y3 y4 y5 y6)) (fun y0 y1 y2 y3 y4 y5 y6 y7 y8=>(hid (ct5 Kb1 Kb3 Kb4)) (fr5 y0 y1 y2 y3 y4 y5 y6 y7 y8)) (fun y0 y1 y2 y3 y4 y5 y6 y7 y8 y9=>(hid (ct6 Kb1 Kb3 (hid (ct5 Kb1 Kb3 Kb4)))) (fr6 y0 y1 y2 y3 y4 y5 y6 y7 y8 y9)):=by kernel_rfl
theorem P5 (gA aA fA iA i9 eA jA cA dA) (Kb1 Kb3 Kb4:Kont U El):ct5 Kb1 Kb3 Kb4 (fr5 gA aA fA iA i9 eA jA cA dA)=sh5 gA aA fA iA i9 eA jA cA dA (fun y0 y1 y2 y3 y4 y5 y6 y7 y8=>Kb4 (fr4 y0 y1 y2 y3 y4 y5 y6 y7 y8)):=by kernel_rfl
theorem P6 (gA aA fA i9 eA jA vA wA cA dA) (Kb1 Kb3 Kb5:Kont U El):ct6 Kb1 Kb3 Kb5 (fr6 gA aA fA i9 eA jA vA wA cA dA)=sh6 gA aA fA i9 eA jA vA wA cA dA (fun y0 y1 y2 y3 y4 y5 y6 y7 y8=>Kb5 (fr5 y0 y1 y2 y3 y4 y5 y6 y7 y8)):=by kernel_rfl
noncomputable def f1 (iA:Bool):R:=sh1 iA
noncomputable def f3 (k2:Y2) (gA:Int) (aA:Int) (fA:List N3) (iA:Bool) (i9:Int) (cA:List Spot) (dA:List Face):R:=sh3 gA aA fA iA i9 cA dA k2
noncomputable def f5 (k2:Y2) (k4:Y4) (gA:Int) (aA:Int) (fA:List N3) (iA:Bool) (i9:Int) (eA:List Pr) (jA:Int) (cA:List Spot) (dA:List Face):R:=sh5 gA aA fA iA i9 eA jA cA dA k4
noncomputable def f6 (k2:Y2) (k4:Y4) (gA:Int) (aA:Int) (fA:List N3) (i9:Int) (eA:List Pr) (jA:Int) (vA:Int) (wA:Int) (cA:List Spot) (dA:List Face):R:=sh6 gA aA fA i9 eA jA vA wA cA dA (f5 k2 k4)
noncomputable def f4 (k2:Y2):Nat→Y4
  | 0=>fun _ _ _ _ _ _ _ _ _=>none
  | n+1=>fun gA aA fA iA i9 eA jA cA dA=>sh4 gA aA fA iA i9 eA jA cA dA (f3 k2) (f5 k2 (f4 k2 n)) (f6 k2 (f4 k2 n))
noncomputable def f2:Nat→Y2
  | 0=>fun _ _ _ _ _ _ _=>none
  | n+1=>fun gA aA fA iA i9 cA dA=>sh2 gA aA fA iA i9 cA dA f1 (f4 (f2 n) 100000)
noncomputable def f0 (m:Mesh) (p:Int) (t:Int):R:=sh0 m p t (f2 100000)
theorem T1 (iA):(hid ct1) (fr1 iA)=f1 iA:=by
  refine (congrFun (hid_eq _) _).trans <| (P1 iA).trans ?_
  show _=sh1 iA
  rfl
theorem T3 (KL2:Kont U El) (k2:Y2) (h2:∀ gA aA fA iA i9 cA dA,KL2 (fr2 gA aA fA iA i9 cA dA)=k2 gA aA fA iA i9 cA dA) (gA aA fA iA i9 cA dA):(hid (ct3 (hid ct1) KL2)) (fr3 gA aA fA iA i9 cA dA)=f3 k2 gA aA fA iA i9 cA dA:=by
  refine (congrFun (hid_eq _) _).trans <| (P3 gA aA fA iA i9 cA dA (hid ct1) KL2).trans ?_
  show _=sh3 gA aA fA iA i9 cA dA k2
  simp only [h2]
theorem T5 (KL2:Kont U El) (KL4:Kont U El) (k2:Y2) (k4:Y4) (h2:∀ gA aA fA iA i9 cA dA,KL2 (fr2 gA aA fA iA i9 cA dA)=k2 gA aA fA iA i9 cA dA) (h4:∀ gA aA fA iA i9 eA jA cA dA,KL4 (fr4 gA aA fA iA i9 eA jA cA dA)=k4 gA aA fA iA i9 eA jA cA dA) (gA aA fA iA i9 eA jA cA dA):(hid (ct5 (hid ct1) (hid (ct3 (hid ct1) KL2)) KL4)) (fr5 gA aA fA iA i9 eA jA cA dA)=f5 k2 k4 gA aA fA iA i9 eA jA cA dA:=by
  refine (congrFun (hid_eq _) _).trans <| (P5 gA aA fA iA i9 eA jA cA dA (hid ct1) (hid (ct3 (hid ct1) KL2)) KL4).trans ?_
  show _=sh5 gA aA fA iA i9 eA jA cA dA k4
  simp only [h4]
theorem T6 (KL2:Kont U El) (KL4:Kont U El) (k2:Y2) (k4:Y4) (h2:∀ gA aA fA iA i9 cA dA,KL2 (fr2 gA aA fA iA i9 cA dA)=k2 gA aA fA iA i9 cA dA) (h4:∀ gA aA fA iA i9 eA jA cA dA,KL4 (fr4 gA aA fA iA i9 eA jA cA dA)=k4 gA aA fA iA i9 eA jA cA dA) (gA aA fA i9 eA jA vA wA cA dA):(hid (ct6 (hid ct1) (hid (ct3 (hid ct1) KL2)) (hid (ct5 (hid ct1) (hid (ct3 (hid ct1) KL2)) KL4)))) (fr6 gA aA fA i9 eA jA vA wA cA dA)=f6 k2 k4 gA aA fA i9 eA jA vA wA cA dA:=by
  refine (congrFun (hid_eq _) _).trans <| (P6 gA aA fA i9 eA jA vA wA cA dA (hid ct1) (hid (ct3 (hid ct1) KL2)) (hid (ct5 (hid ct1) (hid (ct3 (hid ct1) KL2)) KL4))).trans ?_
  show _=sh6 gA aA fA i9 eA jA vA wA cA dA (f5 k2 k4)
  simp only [T5 KL2 KL4 k2 k4 h2 h4]
theorem T4 (KL2:Kont U El) (k2:Y2) (h2:∀ gA aA fA iA i9 cA dA,KL2 (fr2 gA aA fA iA i9 cA dA)=k2 gA aA fA iA i9 cA dA):∀ (n:Nat),∀ gA aA fA iA i9 eA jA cA dA,it4 (hid ct1) (hid (ct3 (hid ct1) KL2)) n (fr4 gA aA fA iA i9 eA jA cA dA)=f4 k2 n gA aA fA iA i9 eA jA cA dA:=by
  intro n
  induction n with
  | zero=>intros; rfl
  | succ n ih =>
    intro gA aA fA iA i9 eA jA cA dA
    refine (P4 gA aA fA iA i9 eA jA cA dA (hid ct1) (hid (ct3 (hid ct1) KL2)) (it4 (hid ct1) (hid (ct3 (hid ct1) KL2)) n)).trans ?_
    show _=sh4 gA aA fA iA i9 eA jA cA dA (f3 k2) (f5 k2 (f4 k2 n)) (f6 k2 (f4 k2 n))
    simp only [T3 KL2 k2 h2,T5 KL2 (it4 (hid ct1) (hid (ct3 (hid ct1) KL2)) n) k2 (f4 k2 n) h2 ih,T6 KL2 (it4 (hid ct1) (hid (ct3 (hid ct1) KL2)) n) k2 (f4 k2 n) h2 ih]
theorem H4 (KL2:Kont U El) (k2:Y2) (h2:∀ gA aA fA iA i9 cA dA,KL2 (fr2 gA aA fA iA i9 cA dA)=k2 gA aA fA iA i9 cA dA) (gA aA fA iA i9 eA jA cA dA):hid (it4 (hid ct1) (hid (ct3 (hid ct1) KL2)) 100000) (fr4 gA aA fA iA i9 eA jA cA dA)=f4 k2 100000 gA aA fA iA i9 eA jA cA dA:=(congrFun (hid_eq _) _).trans (T4 KL2 k2 h2 100000 gA aA fA iA i9 eA jA cA dA)
theorem T2:∀ (n:Nat),∀ gA aA fA iA i9 cA dA,it2 (hid ct1) n (fr2 gA aA fA iA i9 cA dA)=f2 n gA aA fA iA i9 cA dA:=by
  intro n
  induction n with
  | zero=>intros; rfl
  | succ n ih =>
    intro gA aA fA iA i9 cA dA
    refine (P2 gA aA fA iA i9 cA dA (hid ct1) (it2 (hid ct1) n)).trans ?_
    show _=sh2 gA aA fA iA i9 cA dA f1 (f4 (f2 n) 100000)
    simp only [T1,H4 (it2 (hid ct1) n) (f2 n) ih]
theorem H2 (gA aA fA iA i9 cA dA):hid (it2 (hid ct1) 100000) (fr2 gA aA fA iA i9 cA dA)=f2 100000 gA aA fA iA i9 cA dA:=(congrFun (hid_eq _) _).trans (T2 100000 gA aA fA iA i9 cA dA)
theorem T0 (m p t):exec X bd (.seq none .d (.seq none .d (.seq none .d (.seq (some nm1) (.seq none .d (.block (.loop nm2 (.seq none .d (.seq (some nm3) (.block (.seq none .d (.seq none .d (.block (.loop nm4 (.seq none .d (.seq (some nm5) (.block (.seq none .d (.seq (some nm6) .d .d))) .d))))))) .d))))) .d)))) (fr0 m p t) RR (fun _ _=>none) RR=f0 m p t:=by
  refine (P0 m p t).trans ?_
  show _=sh0 m p t (f2 100000)
  simp only [H2]
theorem run (m p t):runFn X bd (.seq none .d (.seq none .d (.seq none .d (.seq (some nm1) (.seq none .d (.block (.loop nm2 (.seq none .d (.seq (some nm3) (.block (.seq none .d (.seq none .d (.block (.loop nm4 (.seq none .d (.seq (some nm5) (.block (.seq none .d (.seq (some nm6) .d .d))) .d))))))) .d))))) .d)))) nmR [6] [] [(.agg [(.lst .spot m.ms),(.lst .face m.mf)]),(.int .i64 p),(.int .i64 t)]=f0 m p t:=T0 m p t
theorem g0 (s t:Int) (nr:List N3) (so:Bool) (i:Int) (a b c:Pr) (m:Mesh) (k3:Y3) (k5:Y5) (k6:Y6):sh4 s t nr so i [a,b,c] 0 m.ms m.mf k3 k5 k6=condB (a.p0 != s) (condB (a.p1 != s) (k5 s t nr so i [a,b,c] 0 m.ms m.mf) (k6 s t nr i [a,b,c] 0 a.p0 a.p1 m.ms m.mf)) (k6 s t nr i [a,b,c] 0 a.p0 a.p1 m.ms m.mf):=by kernel_rfl
theorem g1 (s t:Int) (nr:List N3) (so:Bool) (i:Int) (a b c:Pr) (m:Mesh) (k3:Y3) (k5:Y5) (k6:Y6):sh4 s t nr so i [a,b,c] 1 m.ms m.mf k3 k5 k6=condB (b.p0 != s) (condB (b.p1 != s) (k5 s t nr so i [a,b,c] 1 m.ms m.mf) (k6 s t nr i [a,b,c] 1 b.p0 b.p1 m.ms m.mf)) (k6 s t nr i [a,b,c] 1 b.p0 b.p1 m.ms m.mf):=by kernel_rfl
theorem g2 (s t:Int) (nr:List N3) (so:Bool) (i:Int) (a b c:Pr) (m:Mesh) (k3:Y3) (k5:Y5) (k6:Y6):sh4 s t nr so i [a,b,c] 2 m.ms m.mf k3 k5 k6=condB (c.p0 != s) (condB (c.p1 != s) (k5 s t nr so i [a,b,c] 2 m.ms m.mf) (k6 s t nr i [a,b,c] 2 c.p0 c.p1 m.ms m.mf)) (k6 s t nr i [a,b,c] 2 c.p0 c.p1 m.ms m.mf):=by kernel_rfl
noncomputable def look (m:Mesh) (t:Int) (x:Int) (a b:Int) (y:R):R:=condB (ilt x 0) (outB false) (condB (ilt t (IntKind.wrap .i64 (zOf m a - zOf m b))) (outB false) (condB (ilt t (IntKind.wrap .i64 ((0:Int) - IntKind.wrap .i64 (zOf m a - zOf m b)))) (outB false) y))
theorem l0 (s t:Int) (nr:List N3) (i:Int) (l:List Pr) (a b:Int) (m:Mesh) (k5:Y5):sh6 s t nr i l 0 a b m.ms m.mf k5=chk (inb a m.ms.length) (chk (inb b m.ms.length) (chk (inb i nr.length) (look m t (List.getD nr (Int.toNat i) d_n3).n0 a b (k5 s t nr true i l 0 m.ms m.mf)))):=by kernel_rfl
theorem l1 (s t:Int) (nr:List N3) (i:Int) (l:List Pr) (a b:Int) (m:Mesh) (k5:Y5):sh6 s t nr i l 1 a b m.ms m.mf k5=chk (inb a m.ms.length) (chk (inb b m.ms.length) (chk (inb i nr.length) (look m t (List.getD nr (Int.toNat i) d_n3).n1 a b (k5 s t nr true i l 1 m.ms m.mf)))):=by kernel_rfl
theorem l2 (s t:Int) (nr:List N3) (i:Int) (l:List Pr) (a b:Int) (m:Mesh) (k5:Y5):sh6 s t nr i l 2 a b m.ms m.mf k5=chk (inb a m.ms.length) (chk (inb b m.ms.length) (chk (inb i nr.length) (look m t (List.getD nr (Int.toNat i) d_n3).n2 a b (k5 s t nr true i l 2 m.ms m.mf)))):=by kernel_rfl
theorem look_eq {m:Mesh} (hv:validM m=true) {t:Int} (ht:tolOk t=true) (x:Int) (p:Pr) (hx:ilt x 0=opn m p) (y:R):look m t x p.p0 p.p1 y=bif badS m t p then outB false else y:=by
  obtain ⟨e1,e2,_⟩:=steep hv t ht p
  unfold look badS
  rw [hx,e1,e2]
  cases opn m p<;>cases ilt t (zOf m p.p0 - zOf m p.p1)<;>cases ilt (zOf m p.p0 - zOf m p.p1) (0 - t)<;>rfl
theorem touch_eq (s:Int) (p:Pr) (x y z:R) (hy:y=z):condB (p.p0 != s) (condB (p.p1 != s) x y) y=bif tch s p then z else x:=by
  subst hy
  unfold tch bne
  cases p.p0 == s<;>cases p.p1 == s<;>rfl
theorem three (a b c p q r:Bool) (so:Bool) (x:Bool→R) (y:R) :
    (bif a then bif p then y else (bif b then bif q then y else (bif c then bif r then y else x true else x true) else (bif c then bif r then y else x true else x true)) else (bif b then bif q then y else (bif c then bif r then y else x true else x true) else (bif c then bif r then y else x true else x so))) =
    bif ((a&&p)||((b&&q)||(c&&r))) then y else x (so||(a||(b||c))):=by
  cases a<;>cases b<;>cases c<;>cases p<;>cases q<;>cases r<;>cases so<;>rfl
theorem face (m:Mesh) (hv:validM m=true) (s t:Int) (ht:tolOk t=true) (i:Nat) (hi:i < m.mf.length) (so:Bool) (K:Y2) :
    f4 K 100000 s t (rneighL m) so (i:Int) (sidesL m.mf[i]) 0 m.ms m.mf=bif tB m t s m.mf[i] then outB false else f3 K s t (rneighL m) (so||tA s m.mf[i]) (i:Int) m.ms m.mf:=by
  have hin:faceIn m m.mf[i]=true:=valid_in hv _ (List.getElem_mem hi)
  simp only [faceIn,Bool.and_eq_true] at hin
  have hnl:(rneighL m).length=m.mf.length:=by simp [rneighL]
  have hnr:List.getD (rneighL m) i d_n3=rn3 m i:=by
    rw [getD_lt (by rw [hnl]; exact hi)]
    simp [rneighL]
  have o0:=across_opn m hi 0 (by omega); have o1:=across_opn m hi 1 (by omega); have o2:=across_opn m hi 2 (by omega)
  have ini:inb (i:Int) (rneighL m).length=true:=by rw [hnl]; exact inbT hi
  have e:∀ (so:Bool) (n:Nat) (kk:Nat),kk < 3→f5 K (f4 K n) s t (rneighL m) so (i:Int) (sidesL m.mf[i]) (kk:Int) m.ms m.mf=f4 K n s t (rneighL m) so (i:Int) (sidesL m.mf[i]) ((kk+1:Nat):Int) m.ms m.mf:=fun so n kk hk=>by
    show f4 K n s t (rneighL m) so (i:Int) (sidesL m.mf[i]) (IntKind.wrap .i64 ((kk:Int)+1)) m.ms m.mf=_
    rw [wrapS kk (by omega)]
  have q0:∀ so n,f4 K (n+1) s t (rneighL m) so (i:Int) (sidesL m.mf[i]) 0 m.ms m.mf=bif tch s (sideF m.mf[i] 0) then (bif badS m t (sideF m.mf[i] 0) then outB false else f4 K n s t (rneighL m) true (i:Int) (sidesL m.mf[i]) 1 m.ms m.mf) else f4 K n s t (rneighL m) so (i:Int) (sidesL m.mf[i]) 1 m.ms m.mf:=fun so n=>by
    refine (g0 s t (rneighL m) so (i:Int) _ _ _ m (f3 K) (f5 K (f4 K n)) (f6 K (f4 K n))).trans ((touch_eq s (sideF m.mf[i] 0) _ _ _ ?_).trans (by rw [show sidesL m.mf[i]=[_,_,_] from rfl]; exact congrArg (fun z=>bif tch s (sideF m.mf[i] 0) then _ else z) (e so n 0 (by omega))))
    refine (l0 s t (rneighL m) (i:Int) _ _ _ m (f5 K (f4 K n))).trans ?_
    rw [show inb (Pr.p0 ⟨m.mf[i].fa,m.mf[i].fb⟩) m.ms.length=true from hin.1,show inb (Pr.p1 ⟨m.mf[i].fa,m.mf[i].fb⟩) m.ms.length=true from hin.2.1,ini,chkT,chkT,chkT,toNat_nat,hnr]
    refine (look_eq hv ht _ (sideF m.mf[i] 0) o0 _).trans ?_
    exact congrArg (fun z=>bif badS m t (sideF m.mf[i] 0) then outB false else z) (e true n 0 (by omega))
  have q1:∀ so n,f4 K (n+1) s t (rneighL m) so (i:Int) (sidesL m.mf[i]) 1 m.ms m.mf=bif tch s (sideF m.mf[i] 1) then (bif badS m t (sideF m.mf[i] 1) then outB false else f4 K n s t (rneighL m) true (i:Int) (sidesL m.mf[i]) 2 m.ms m.mf) else f4 K n s t (rneighL m) so (i:Int) (sidesL m.mf[i]) 2 m.ms m.mf:=fun so n=>by
    refine (g1 s t (rneighL m) so (i:Int) _ _ _ m (f3 K) (f5 K (f4 K n)) (f6 K (f4 K n))).trans ((touch_eq s (sideF m.mf[i] 1) _ _ _ ?_).trans (by rw [show sidesL m.mf[i]=[_,_,_] from rfl]; exact congrArg (fun z=>bif tch s (sideF m.mf[i] 1) then _ else z) (e so n 1 (by omega))))
    refine (l1 s t (rneighL m) (i:Int) _ _ _ m (f5 K (f4 K n))).trans ?_
    rw [show inb (Pr.p0 ⟨m.mf[i].fb,m.mf[i].fc⟩) m.ms.length=true from hin.2.1,show inb (Pr.p1 ⟨m.mf[i].fb,m.mf[i].fc⟩) m.ms.length=true from hin.2.2,ini,chkT,chkT,chkT,toNat_nat,hnr]
    refine (look_eq hv ht _ (sideF m.mf[i] 1) o1 _).trans ?_
    exact congrArg (fun z=>bif badS m t (sideF m.mf[i] 1) then outB false else z) (e true n 1 (by omega))
  have q2:∀ so n,f4 K (n+1) s t (rneighL m) so (i:Int) (sidesL m.mf[i]) 2 m.ms m.mf=bif tch s (sideF m.mf[i] 2) then (bif badS m t (sideF m.mf[i] 2) then outB false else f4 K n s t (rneighL m) true (i:Int) (sidesL m.mf[i]) 3 m.ms m.mf) else f4 K n s t (rneighL m) so (i:Int) (sidesL m.mf[i]) 3 m.ms m.mf:=fun so n=>by
    refine (g2 s t (rneighL m) so (i:Int) _ _ _ m (f3 K) (f5 K (f4 K n)) (f6 K (f4 K n))).trans ((touch_eq s (sideF m.mf[i] 2) _ _ _ ?_).trans (by rw [show sidesL m.mf[i]=[_,_,_] from rfl]; exact congrArg (fun z=>bif tch s (sideF m.mf[i] 2) then _ else z) (e so n 2 (by omega))))
    refine (l2 s t (rneighL m) (i:Int) _ _ _ m (f5 K (f4 K n))).trans ?_
    rw [show inb (Pr.p0 ⟨m.mf[i].fc,m.mf[i].fa⟩) m.ms.length=true from hin.2.2,show inb (Pr.p1 ⟨m.mf[i].fc,m.mf[i].fa⟩) m.ms.length=true from hin.1,ini,chkT,chkT,chkT,toNat_nat,hnr]
    refine (look_eq hv ht _ (sideF m.mf[i] 2) o2 _).trans ?_
    exact congrArg (fun z=>bif badS m t (sideF m.mf[i] 2) then outB false else z) (e true n 2 (by omega))
  have q3:∀ so n,f4 K (n+1) s t (rneighL m) so (i:Int) (sidesL m.mf[i]) 3 m.ms m.mf=f3 K s t (rneighL m) so (i:Int) m.ms m.mf:=fun so n=>by
    show sh4 s t (rneighL m) so (i:Int) (sidesL m.mf[i]) 3 m.ms m.mf (f3 K) (f5 K (f4 K n)) (f6 K (f4 K n))=_
    unfold sh4
    rw [iltF (by decide),condF]
  show f4 K (99996+1+1+1+1) s t (rneighL m) so (i:Int) (sidesL m.mf[i]) 0 m.ms m.mf=_
  simp only [q0,q1,q2,q3]
  rw [three _ _ _ _ _ _ so (fun b=>f3 K s t (rneighL m) b (i:Int) m.ms m.mf)]
  have hB:tB m t s m.mf[i]=((tch s (sideF m.mf[i] 0)&&badS m t (sideF m.mf[i] 0))||((tch s (sideF m.mf[i] 1)&&badS m t (sideF m.mf[i] 1))||(tch s (sideF m.mf[i] 2)&&badS m t (sideF m.mf[i] 2)))):=by
    unfold tB sidesL
    simp only [List.any_cons,List.any_nil,Bool.or_false]
    rfl
  have hA:tA s m.mf[i]=(tch s (sideF m.mf[i] 0)||(tch s (sideF m.mf[i] 1)||tch s (sideF m.mf[i] 2))):=by
    unfold tA sidesL
    simp only [List.any_cons,List.any_nil,Bool.or_false]
    rfl
  rw [hB,hA]
theorem loop (m : Mesh) (hv : validM m = true) (s t : Int) (ht : tolOk t = true) : ∀ (n i : Nat) (so : Bool), m.mf.length < n + i → i ≤ m.mf.length →
    f2 n s t (rneighL m) so (i:Int) m.ms m.mf=outB (!((m.mf.drop i).any (tB m t s))&&(so||(m.mf.drop i).any (tA s))):=by
  have hn:=(valid_small hv).2
  intro n
  induction n with
  | zero=>intro i so h1 h2; omega
  | succ n ih =>
    intro i so h1 h2
    show sh2 s t (rneighL m) so (i:Int) m.ms m.mf f1 (f4 (f2 n) 100000)=_
    unfold sh2
    by_cases hi:i < m.mf.length
    · rw [iltT (by simp; omega), condT, inbT hi, chkT, toNat_nat, getD_lt hi, face m hv s t ht i hi, drop_lt hi, List.any_cons, List.any_cons]
      cases tB m t s m.mf[i] with
      | true=>rfl
      | false =>
        show f2 n s t (rneighL m) _ (IntKind.wrap .i64 ((i:Int)+1)) m.ms m.mf=_
        rw [wrapS i (by omega),ih (i+1) _ (by omega) hi,Bool.false_or,Bool.or_assoc]
    · have : i = m.mf.length := by omega
      subst this
      rw [iltF (by simp),condF,List.drop_length]
      cases so<;>rfl
theorem f0_eq (m:Mesh) (s t:Int) (h:(validM m&&tolOk t)=true):f0 m s t=outB (flatB m t s):=by
  simp only [Bool.and_eq_true] at h
  have hs:=valid_small h.1
  show chk (sizeOk m) (f2 100000 s t (rneighL m) false ((0:Nat):Int) m.ms m.mf)=_
  have hz:sizeOk m=true:=by unfold sizeOk; rw [nleT (by omega),nleT (by omega)]; rfl
  rw [hz,chkT,loop m h.1 s t h.2 100000 0 false (by omega) (by omega),List.drop_zero,Bool.false_or,flat_eq]
theorem ok:CtxOk Tryz.prog X:=ctxOk tab (spC rneigh.spOk (spC rsides.spOk spN)) dpN
theorem okM:MOk Tryz.prog X:=fun g sp h=>by cases h
theorem spec (m:Mesh) (p:Int) (t:Int) (h:((validM m&&tolOk t))=true):CallSpec Tryz.prog E 42 [(.agg [(.lst .spot m.ms),(.lst .face m.mf)]),(.int .i64 p),(.int .i64 t)] (.bool (flatB m t p)) [] :=
  runFn_sound ok okM Tryz.call42 Tryz.func42 (by kernel_rfl) (by kernel_rfl) (by kernel_rfl) (by show 3≤84; decide) (by decide) (by rfl) ((run m p t).trans (f0_eq m p t h))
noncomputable def sp:Sp U El:=fun args k=>match args with
  | [.agg [.lst .spot m_ms,.lst .face m_mf],.int .i64 p,.int .i64 t]=>chk ((validM (⟨m_ms,m_mf⟩:Mesh)&&tolOk t)) (k (.bool (flatB (⟨m_ms,m_mf⟩:Mesh) t p)) [])
  | _=>none
theorem spOk:SpOk Tryz.prog E 42 sp where
  det:=fun vs=>by
    unfold sp
    split
    · exact det_c _ _ _
    · exact ⟨none,fun _=>rfl⟩
  ok:=fun vs k r h=>by
    unfold sp at h
    split at h
    · obtain ⟨h1, h2⟩ := chk_some h
      exact ⟨_,_,spec ⟨_,_⟩ _ _ h1,h2⟩
    · cases h
end flat
namespace large
noncomputable def bd:Code:=(Tryz.f9.body).getD .skip
noncomputable def X:Ctx U El:=⟨E,tds,zeros,eqs,specOf [],100000,37,dspecOf [],fun _=>none⟩
noncomputable def nmR:Norm U:=⟨[],[2],[],[],[],[],[]⟩
noncomputable def RR:Kont U El:=fun st=>normK nmR st (retFin [2] [])
noncomputable def fr0 (m:Mesh):St U El:=⟨[(0,(.agg [(.lst .spot m.ms),(.lst .face m.mf)]))],[]⟩
noncomputable def sh0 (m:Mesh):R :=
  condB (ilt (40:Int) (Int.ofNat (List.length m.ms))) (condB (ile (Int.ofNat (List.length m.ms)) (2000:Int)) (some ((.bool true),[])) (condB (ilt (60:Int) (Int.ofNat (List.length m.mf))) (condB (ile (Int.ofNat (List.length m.mf)) (4000:Int)) (some ((.bool true),[])) (condB (ilt (2050:Int) (Int.ofNat (List.length m.ms))) (some ((.bool true),[])) (some ((.bool (ilt (4050:Int) (Int.ofNat (List.length m.mf)))),[])))) (condB (ilt (2050:Int) (Int.ofNat (List.length m.ms))) (some ((.bool true),[])) (some ((.bool (ilt (4050:Int) (Int.ofNat (List.length m.mf)))),[]))))) (condB (ilt (60:Int) (Int.ofNat (List.length m.mf))) (condB (ile (Int.ofNat (List.length m.mf)) (4000:Int)) (some ((.bool true),[])) (condB (ilt (2050:Int) (Int.ofNat (List.length m.ms))) (some ((.bool true),[])) (some ((.bool (ilt (4050:Int) (Int.ofNat (List.length m.mf)))),[])))) (condB (ilt (2050:Int) (Int.ofNat (List.length m.ms))) (some ((.bool true),[])) (some ((.bool (ilt (4050:Int) (Int.ofNat (List.length m.mf)))),[]))))
theorem P0 (m):exec X (cdp [] bd) .d (fr0 m) RR (fun _ _=>none) RR=sh0 m:=by kernel_rfl
noncomputable def f0 (m:Mesh):R:=sh0 m
theorem T0 (m):exec X bd .d (fr0 m) RR (fun _ _=>none) RR=f0 m:=by
  refine (P0 m).trans ?_
  show _=sh0 m
  rfl
theorem run (m):runFn X bd .d nmR [2] [] [(.agg [(.lst .spot m.ms),(.lst .face m.mf)])]=f0 m:=T0 m
theorem f0_eq (m:Mesh):f0 m=outB (largeB m):=by
  show sh0 m=_
  unfold sh0 largeB
  cases ilt (40:Int) (Int.ofNat (List.length m.ms))<;>cases ile (Int.ofNat (List.length m.ms)) (2000:Int)<;>cases ilt (60:Int) (Int.ofNat (List.length m.mf))<;>cases ile (Int.ofNat (List.length m.mf)) (4000:Int)<;>cases ilt (2050:Int) (Int.ofNat (List.length m.ms))<;>cases ilt (4050:Int) (Int.ofNat (List.length m.mf))<;>rfl
theorem ok:CtxOk Tryz.prog X:=ctxOk tab spN dpN
theorem okM:MOk Tryz.prog X:=fun g sp h=>by cases h
theorem spec (m:Mesh):CallSpec Tryz.prog E 9 [(.agg [(.lst .spot m.ms),(.lst .face m.mf)])] (.bool (largeB m)) [] :=
  runFn_sound ok okM Tryz.call9 Tryz.func9 (by kernel_rfl) (by kernel_rfl) (by kernel_rfl) (by show 1≤37; decide) (by decide) (by rfl) ((run m).trans (f0_eq m))
noncomputable def sp:Sp U El:=fun args k=>match args with
  | [.agg [.lst .spot m_ms,.lst .face m_mf]]=>k (.bool (largeB (⟨m_ms,m_mf⟩:Mesh))) []
  | _=>none
theorem spOk:SpOk Tryz.prog E 9 sp where
  det:=fun vs=>by
    unfold sp
    split
    · exact ⟨some (_,_),fun _=>rfl⟩
    · exact ⟨none,fun _=>rfl⟩
  ok:=fun vs k r h=>by
    unfold sp at h
    split at h
    · exact ⟨_,_,spec ⟨_,_⟩,h⟩
    · cases h
end large
end Go.Proofs.YtnofdcckddfooaaGreatDoor
