/- The law ScheduleFaultless: its own run comes to true. -/
import Derived.Test.YthdklallcljhlaaVU
import Derived.Test.YthdklallcljhlaaAW
namespace Go.Proofs.Ythdklallcljhlaa
set_option linter.unusedSectionVars false
set_option linter.unusedSimpArgs false
set_option linter.unusedVariables false
set_option maxRecDepth 100000
theorem asc_up {a b:Int} (hab:a≤b) {l:List Int} (h:ascB a l=true):ascB b l=true:=by
  refine allI_iff.2 fun j x hx => ?_
  have h1:=allI_iff.1 h j x hx
  simp only [ascX,Bool.not_eq_true',Bool.or_eq_false_iff] at h1 ⊢
  refine ⟨h1.1,?_,h1.2.2⟩
  have h2:=h1.2.1
  have:=ileN h2
  exact ileF (by omega)
theorem goodW_up {n a b:Int} (hab:a≤b):∀ {l seen:List Work},goodW n a seen l=true→goodW n b seen l=true:=by
  intro l
  induction l with
  | nil=>intro seen _; rfl
  | cons x l ih =>
    intro seen h
    simp only [goodW,Bool.and_eq_true] at h ⊢
    refine ⟨?_,ih h.2⟩
    have h1:=h.1
    simp only [wk,Bool.and_eq_true] at h1 ⊢
    obtain ⟨a1,a2,a3,a4,a5,a6⟩:=h1
    exact ⟨a1,a2,a3,a4,asc_up hab a5,a6⟩
theorem valid_up {l:List Work} {crews:Int} (h:validB l crews=true):validB l 12=true:=by
  have hV:=valid_of h
  have hl:=hV.len
  simp only [validB,Bool.and_eq_true,Bool.not_eq_true']
  exact ⟨⟨by rfl,by rfl⟩,iltF (by simp; omega),goodW_up hV.cr.2 hV.good,hV.topo⟩
theorem check_P {l:List Work} {crews:Int} {p:List Slot} (hv:validB l crews=true) (hp:p.length=l.length) (h:∀ i,i < l.length→faultN l p i=0):checkP l crews p=(0,-1):=by
  unfold checkP
  rw [hv,show (Int.ofNat p.length != Int.ofNat l.length)=false by rw [hp]; simp]
  simp only [Bool.not_true,cond_false]
  exact findF_T _ _ fun j h1 h2=>h j (by omega)
theorem late_e {w:Work} {e e':Int} (hp:0≤w.wp∧w.wp≤1000000) (hd:0≤w.wd∧w.wd≤100000) (h0:0≤e') (hee:e'≤e) (h9:e≤2000000):lateZ w e'≤lateZ w e∧0≤lateZ w e'∧lateZ w e≤2000000000000:=by
  obtain ⟨x,h1,h2,h3,h4,h5,h6,h7⟩:=late_val (e:=e) hp hd (by omega)
  obtain ⟨y,g1,g2,g3,g4,g5,g6,g7⟩:=late_val (e:=e') hp hd (by omega)
  rw [h1,g1]
  exact ⟨Int.mul_le_mul_of_nonneg_left (by omega) hp.1,g6,h7⟩
theorem bnd_le {l:List Work} {p:List Slot} (hE:EE l) (hl:l.length≤100) (hp:p.length=l.length) (hd:∀ w∈l,(0≤w.wd∧w.wd≤100000)∧(0≤w.wp∧w.wp≤1000000)) (hf:∀ i,i < l.length→NoF l p i) (hen:∀ i:Nat,i < l.length→endE l (i:Int)≤(List.getD p i d_slot).ss+(List.getD l i d_work).wh) :
    ∀ (n k:Nat) (s s':Int),n+k=l.length→0≤s'→s'≤s→s≤(k:Int) * 2000000000000→bndG l (endsL l) n k s'≤costG l p n k s∧0≤bndG l (endsL l) n k s':=by
  intro n
  induction n with
  | zero=>intro k s s' _ h0 h _; exact ⟨h,h0⟩
  | succ n ih =>
    intro k s s' hk h1 h2 h3
    have hkl:k < l.length:=by omega
    have hN:=hf k hkl
    have hw:=hE.wh k hkl
    have he1:endZ l (List.getD p k d_slot)=(List.getD p k d_slot).ss+l[k].wh:=by
      unfold endZ
      rw [hN.sw,toNat_nat,getD_lt hkl]
      exact wrapI (by have:=hN.s0; omega) (by have:=hN.s9; omega)
    have he2:=hen k hkl
    rw [getD_lt hkl] at he2
    have hEb:=E_bd hE hkl
    obtain ⟨d1,d2⟩:=hd _ (List.getElem_mem hkl)
    obtain ⟨c1,c2,c3⟩:=late_e (w:=l[k]) d2 d1 (by omega) he2 (by have:=hN.s9; omega)
    simp only [costG,bndG]
    rw [he1,getD_lt hkl,ends_get hkl]
    rw [wrapI (x:=s+_) (by omega) (by omega),wrapI (x:=s'+_) (by omega) (by omega)]
    exact ih (k+1) _ _ (by omega) (by omega) (by omega) (by omega)
namespace lawFaultless
noncomputable def bd:Code:=(Try.f5.body).getD .skip
noncomputable def X:Ctx U El:=⟨E,tds,zeros,eqs,specOf [(9,awake.sp),(10,large.sp),(11,check.sp),(13,valid.sp),(18,greedy.sp),(19,bound.sp),(20,Costc.sp),(21,cloneS.sp)],100000,129,dspecOf [],fun _=>none⟩
noncomputable def nmR:Norm U:=⟨[],[4],[],[],[],[],[]⟩
noncomputable def RR:Kont U El:=fun st=>normK nmR st (retFin [4] [])
noncomputable def nm1:Norm U:=⟨[],[0,1],[],[],[],[],[]⟩
noncomputable def nm2:Norm U:=⟨[],[0,1,5],[],[],[],[],[]⟩
noncomputable def nm3:Norm U:=⟨[],[],[],[],[],[],[]⟩
noncomputable def nm4:Norm U:=⟨[],[0,1,5,88,89,90],[],[],[],[],[]⟩
noncomputable def nm5:Norm U:=⟨[],[0,1,5,88,89,90],[],[],[],[],[]⟩
noncomputable def nm6:Norm U:=⟨[(97,.int)],[0,1,5,13,88,89,90,97,98,99],[97],[],[],[],[]⟩
noncomputable def nm7:Norm U:=⟨[(97,.int)],[0,1,5,13,88,89,90,97,98,99],[97],[],[],[],[]⟩
abbrev Y1:=(List Work)→Int→R
abbrev Y2:=(List Work)→Int→(List Slot)→R
abbrev Y3:=R
abbrev Y4:=(List Work)→Int→(List Slot)→(List Slot)→Int→Int→R
abbrev Y5:=(List Work)→Int→(List Slot)→(List Slot)→Int→Int→R
abbrev Y6:=(List Work)→Int→(List Slot)→Int→(List Slot)→Int→Int→(List Int)→Int→Int→R
abbrev Y7:=(List Work)→Int→(List Slot)→Int→(List Slot)→Int→Int→(List Int)→Int→Int→R
noncomputable def fr0 (l:List Work) (crews:Int):St U El:=⟨[(0,(.lst .work l)),(1,(.int .i64 crews))],[]⟩
noncomputable def fr1 (l0:List Work) (aA:Int):St U El:=⟨[(0,(.lst .work l0)),(1,(.int .i64 aA))],[]⟩
noncomputable def fr2 (l0:List Work) (aA:Int) (p5:List Slot):St U El:=⟨[(0,(.lst .work l0)),(1,(.int .i64 aA)),(5,(.lst .slot p5))],[]⟩
noncomputable def fr3:St U El:=⟨[],[]⟩
noncomputable def fr4 (l0:List Work) (aA:Int) (p5:List Slot) (cA:List Slot) (dA:Int) (bA:Int):St U El:=⟨[(0,(.lst .work l0)),(1,(.int .i64 aA)),(5,(.lst .slot p5)),(88,(.lst .slot cA)),(89,(.int .i64 dA)),(90,(.int .i64 bA))],[]⟩
noncomputable def fr5 (l0:List Work) (aA:Int) (p5:List Slot) (cA:List Slot) (dA:Int) (bA:Int):St U El:=⟨[(0,(.lst .work l0)),(1,(.int .i64 aA)),(5,(.lst .slot p5)),(88,(.lst .slot cA)),(89,(.int .i64 dA)),(90,(.int .i64 bA))],[]⟩
noncomputable def fr6 (l0:List Work) (aA:Int) (p5:List Slot) (eA:Int) (cA:List Slot) (dA:Int) (bA:Int) (gA:List Int) (hA:Int) (fA:Int):St U El:=⟨[(0,(.lst .work l0)),(1,(.int .i64 aA)),(5,(.lst .slot p5)),(13,(.int .i64 eA)),(88,(.lst .slot cA)),(89,(.int .i64 dA)),(90,(.int .i64 bA)),(97,(.ful 97)),(98,(.int .i64 hA)),(99,(.int .i64 fA))],[(97,(.rows .int gA))]⟩
noncomputable def fr7 (l0:List Work) (aA:Int) (p5:List Slot) (eA:Int) (cA:List Slot) (dA:Int) (bA:Int) (gA:List Int) (hA:Int) (fA:Int):St U El:=⟨[(0,(.lst .work l0)),(1,(.int .i64 aA)),(5,(.lst .slot p5)),(13,(.int .i64 eA)),(88,(.lst .slot cA)),(89,(.int .i64 dA)),(90,(.int .i64 bA)),(97,(.ful 97)),(98,(.int .i64 hA)),(99,(.int .i64 fA))],[(97,(.rows .int gA))]⟩
noncomputable def sh0 (l:List Work) (crews:Int) (k1:Y1):R :=
  condB (!(true)) (some ((.bool false),[])) (condB (largeB l) (some ((.bool true),[])) (condB (ilt (12:Int) (Int.ofNat (List.length l))) (some ((.bool true),[])) (k1 l crews)))
noncomputable def sh1 (l0:List Work) (aA:Int) (k2:Y2):R :=
  chk (okV l0) (condB ((greedyE l0 aA) != (0:Int)) (condB ((Int.ofNat (List.length (greedyL l0 aA))) == (0:Int)) (chk (okV l0) (some ((.bool (!(validB l0 aA))),[]))) (some ((.bool false),[]))) (chk (okV l0) (chk (okV l0) (chk (okV l0) (condB ((checkE l0 aA (greedyL l0 aA)) != (0:Int)) (some ((.bool false),[])) (condB ((checkI l0 aA (greedyL l0 aA)) != (-1:Int)) (some ((.bool false),[])) (condB ((boundE l0 aA) != (0:Int)) (some ((.bool false),[])) (condB ((checkE l0 12 (greedyL l0 aA)) != (0:Int)) (some ((.bool false),[])) (condB (ilt (costE l0 (greedyL l0 aA)) (boundZ l0 aA)) (some ((.bool false),[])) (condB (ilt (boundZ l0 aA) (0:Int)) (some ((.bool false),[])) (k2 l0 aA (greedyL l0 aA))))))))))))
noncomputable def sh2 (l0:List Work) (aA:Int) (p5:List Slot) (k4:Y4):R :=
  k4 l0 aA p5 p5 (Int.ofNat (List.length p5)) (0:Int)
noncomputable def sh3:R :=
  some ((.bool true),[])
noncomputable def sh4 (l0:List Work) (aA:Int) (p5:List Slot) (cA:List Slot) (dA:Int) (bA:Int) (k3:Y3) (k6:Y6):R :=
  condB (ilt bA dA) (chk (inb bA (List.length cA)) (k6 l0 aA p5 bA cA dA bA ([(1:Int),(2:Int),(List.getD cA (Int.toNat bA) d_slot).ss]:List Int) (Int.ofNat (List.length ([(1:Int),(2:Int),(List.getD cA (Int.toNat bA) d_slot).ss]:List Int))) (0:Int))) (k3)
noncomputable def sh5 (l0:List Work) (aA:Int) (p5:List Slot) (cA:List Slot) (dA:Int) (bA:Int) (k4:Y4):R :=
  k4 l0 aA p5 cA dA (IntKind.wrap .i64 (bA+(1:Int)))
noncomputable def sh6 (l0:List Work) (aA:Int) (p5:List Slot) (eA:Int) (cA:List Slot) (dA:Int) (bA:Int) (gA:List Int) (hA:Int) (fA:Int) (k5:Y5) (k7:Y7):R :=
  condB (ilt fA hA) (chk (inb fA (List.length gA)) (chk (nlt (Int.toNat fA) (List.length gA)) (chk (nle (List.length p5) 90000) (chk (inb eA (List.length (p5))) (chk (nlt (Int.toNat eA) (List.length (p5))) (chk (inb eA (List.length (p5))) (chk (nlt (Int.toNat eA) (List.length (p5))&&true) (chk (okV l0) (condB (ilt (0:Int) (List.getD gA (Int.toNat fA) d_int)) (condB ((checkE l0 aA (List.set (p5) (Int.toNat eA) (⟨(List.getD (p5) (Int.toNat eA) d_slot).sw,(List.getD (p5) (Int.toNat eA) d_slot).sc,(IntKind.wrap .i64 ((List.getD (p5) (Int.toNat eA) d_slot).ss - (List.getD gA (Int.toNat fA) d_int)))⟩:Slot))) == (0:Int)) (some ((.bool false),[])) (k7 l0 aA p5 eA cA dA bA gA hA fA)) (k7 l0 aA p5 eA cA dA bA gA hA fA)))))))))) (k5 l0 aA p5 cA dA bA)
noncomputable def sh7 (l0:List Work) (aA:Int) (p5:List Slot) (eA:Int) (cA:List Slot) (dA:Int) (bA:Int) (gA:List Int) (hA:Int) (fA:Int) (k6:Y6):R :=
  k6 l0 aA p5 eA cA dA bA gA hA (IntKind.wrap .i64 (fA+(1:Int)))
noncomputable def it4 (Kb3:Kont U El) (n:Nat):Kont U El:=iter nm4 (fun st' K'=>exec X (cdp [1,1,1,1,1,1,1,1,1,0,1,0,0] bd) (.seq none .d (.seq none .d (.seq (some nm5) (.block (.seq none .d (.seq none .d (.block (.loop nm6 (.seq none .d (.seq none .d (.seq (some nm7) .d .d)))))))) .d))) st' K' (Eblk 0 (cutK nm3 Kb3) (fun _ _=>none)) RR) n
noncomputable def it6 (Kb3 Kb5:Kont U El) (n:Nat):Kont U El:=iter nm6 (fun st' K'=>exec X (cdp [1,1,1,1,1,1,1,1,1,0,1,0,0,1,1,0,0,1,1,0,0] bd) (.seq none .d (.seq none .d (.seq (some nm7) .d .d))) st' K' (Eblk 2 (cutK nm5 Kb5) (Eblk 1 (cutK nm5 Kb5) (Eblk 0 (cutK nm3 Kb3) (fun _ _=>none)))) RR) n
noncomputable def ct1:Kont U El:=fun st=>exec X (cdp [1,1,1] bd) (.seq none .d (.seq none .d (.seq none .d (.seq none .d (.seq none .d (.seq (some nm2) .d (.seq (some nm3) (.seq none .d (.block (.loop nm4 (.seq none .d (.seq none .d (.seq (some nm5) (.block (.seq none .d (.seq none .d (.block (.loop nm6 (.seq none .d (.seq none .d (.seq (some nm7) .d .d)))))))) .d)))))) .d))))))) st RR (fun _ _=>none) RR
noncomputable def ct2:Kont U El:=fun st=>exec X (cdp [1,1,1,1,1,1,1,1,1] bd) (.seq (some nm3) (.seq none .d (.block (.loop nm4 (.seq none .d (.seq none .d (.seq (some nm5) (.block (.seq none .d (.seq none .d (.block (.loop nm6 (.seq none .d (.seq none .d (.seq (some nm7) .d .d)))))))) .d)))))) .d) st RR (fun _ _=>none) RR
noncomputable def ct3:Kont U El:=fun st=>exec X (cdp [1,1,1,1,1,1,1,1,1,1] bd) .d st RR (fun _ _=>none) RR
noncomputable def ct5 (Kb3 Kb4:Kont U El):Kont U El:=fun st=>exec X (cdp [1,1,1,1,1,1,1,1,1,0,1,0,0,1,1,1] bd) .d st (cutK nm4 Kb4) (Eblk 0 (cutK nm3 Kb3) (fun _ _=>none)) RR
noncomputable def ct7 (Kb3 Kb5 Kb6:Kont U El):Kont U El:=fun st=>exec X (cdp [1,1,1,1,1,1,1,1,1,0,1,0,0,1,1,0,0,1,1,0,0,1,1,1] bd) .d st (cutK nm6 Kb6) (Eblk 2 (cutK nm5 Kb5) (Eblk 1 (cutK nm5 Kb5) (Eblk 0 (cutK nm3 Kb3) (fun _ _=>none)))) RR
theorem P0 (l crews):exec X (cdp [] bd) (.seq none .d (.seq none .d (.seq (some nm1) .d (.seq none .d (.seq none .d (.seq none .d (.seq none .d (.seq none .d (.seq (some nm2) .d (.seq (some nm3) (.seq none .d (.block (.loop nm4 (.seq none .d (.seq none .d (.seq (some nm5) (.block (.seq none .d (.seq none .d (.block (.loop nm6 (.seq none .d (.seq none .d (.seq (some nm7) .d .d)))))))) .d)))))) .d)))))))))) (fr0 l crews) RR (fun _ _=>none) RR=sh0 l crews (fun y0 y1=>(hid ct1) (fr1 y0 y1)):=by kernel_rfl
theorem P1 (l0 aA):ct1 (fr1 l0 aA)=sh1 l0 aA (fun y0 y1 y2=>(hid ct2) (fr2 y0 y1 y2)):=by kernel_rfl
theorem P2 (l0 aA p5):ct2 (fr2 l0 aA p5)=sh2 l0 aA p5 (fun y0 y1 y2 y3 y4 y5=>(hid (it4 (hid ct3) 100000)) (fr4 y0 y1 y2 y3 y4 y5)):=by kernel_rfl
theorem P3:ct3 (fr3)=sh3:=by kernel_rfl
theorem P4 (l0 aA p5 cA dA bA) (Kb3 Kb4:Kont U El):exec X (cdp [1,1,1,1,1,1,1,1,1,0,1,0,0] bd) (.seq none .d (.seq none .d (.seq (some nm5) (.block (.seq none .d (.seq none .d (.block (.loop nm6 (.seq none .d (.seq none .d (.seq (some nm7) .d .d)))))))) .d))) (fr4 l0 aA p5 cA dA bA) (cutK nm4 Kb4) (Eblk 0 (cutK nm3 Kb3) (fun _ _=>none)) RR=sh4 l0 aA p5 cA dA bA (Kb3 (fr3)) (fun y0 y1 y2 y3 y4 y5 y6 y7 y8 y9=>(hid (it6 Kb3 (hid (ct5 Kb3 Kb4)) 100000)) (fr6 y0 y1 y2 y3 y4 y5 y6 y7 y8 y9)):=by kernel_rfl
theorem P5 (l0 aA p5 cA dA bA) (Kb3 Kb4:Kont U El):ct5 Kb3 Kb4 (fr5 l0 aA p5 cA dA bA)=sh5 l0 aA p5 cA dA bA (fun y0 y1 y2 y3 y4 y5=>Kb4 (fr4 y0 y1 y2 y3 y4 y5)):=by kernel_rfl
theorem P6 (l0 aA p5 eA cA dA bA gA hA fA) (Kb3 Kb5 Kb6:Kont U El):exec X (cdp [1,1,1,1,1,1,1,1,1,0,1,0,0,1,1,0,0,1,1,0,0] bd) (.seq none .d (.seq none .d (.seq (some nm7) .d .d))) (fr6 l0 aA p5 eA cA dA bA gA hA fA) (cutK nm6 Kb6) (Eblk 2 (cutK nm5 Kb5) (Eblk 1 (cutK nm5 Kb5) (Eblk 0 (cutK nm3 Kb3) (fun _ _=>none)))) RR=sh6 l0 aA p5 eA cA dA bA gA hA fA (fun y0 y1 y2 y3 y4 y5=>Kb5 (fr5 y0 y1 y2 y3 y4 y5)) (fun y0 y1 y2 y3 y4 y5 y6 y7 y8 y9=>(hid (ct7 Kb3 Kb5 Kb6)) (fr7 y0 y1 y2 y3 y4 y5 y6 y7 y8 y9)):=by kernel_rfl
theorem P7 (l0 aA p5 eA cA dA bA gA hA fA) (Kb3 Kb5 Kb6:Kont U El):ct7 Kb3 Kb5 Kb6 (fr7 l0 aA p5 eA cA dA bA gA hA fA)=sh7 l0 aA p5 eA cA dA bA gA hA fA (fun y0 y1 y2 y3 y4 y5 y6 y7 y8 y9=>Kb6 (fr6 y0 y1 y2 y3 y4 y5 y6 y7 y8 y9)):=by kernel_rfl
noncomputable def f3:R:=sh3
noncomputable def f5 (k4:Y4) (l0:List Work) (aA:Int) (p5:List Slot) (cA:List Slot) (dA:Int) (bA:Int):R:=sh5 l0 aA p5 cA dA bA k4
noncomputable def f7 (k4:Y4) (k6:Y6) (l0:List Work) (aA:Int) (p5:List Slot) (eA:Int) (cA:List Slot) (dA:Int) (bA:Int) (gA:List Int) (hA:Int) (fA:Int):R:=sh7 l0 aA p5 eA cA dA bA gA hA fA k6
noncomputable def f6 (k4:Y4):Nat→Y6
  | 0=>fun _ _ _ _ _ _ _ _ _ _=>none
  | n+1=>fun l0 aA p5 eA cA dA bA gA hA fA=>sh6 l0 aA p5 eA cA dA bA gA hA fA (f5 k4) (f7 k4 (f6 k4 n))
noncomputable def f4:Nat→Y4
  | 0=>fun _ _ _ _ _ _=>none
  | n+1=>fun l0 aA p5 cA dA bA=>sh4 l0 aA p5 cA dA bA f3 (f6 (f4 n) 100000)
noncomputable def f2 (l0:List Work) (aA:Int) (p5:List Slot):R:=sh2 l0 aA p5 (f4 100000)
noncomputable def f1 (l0:List Work) (aA:Int):R:=sh1 l0 aA f2
noncomputable def f0 (l:List Work) (crews:Int):R:=sh0 l crews f1
theorem T3:(hid ct3) (fr3)=f3:=by
  refine (congrFun (hid_eq _) _).trans <| (P3).trans ?_
  show _=sh3
  rfl
theorem T5 (KL4:Kont U El) (k4:Y4) (h4:∀ l0 aA p5 cA dA bA,KL4 (fr4 l0 aA p5 cA dA bA)=k4 l0 aA p5 cA dA bA) (l0 aA p5 cA dA bA):(hid (ct5 (hid ct3) KL4)) (fr5 l0 aA p5 cA dA bA)=f5 k4 l0 aA p5 cA dA bA:=by
  refine (congrFun (hid_eq _) _).trans <| (P5 l0 aA p5 cA dA bA (hid ct3) KL4).trans ?_
  show _=sh5 l0 aA p5 cA dA bA k4
  simp only [h4]
theorem T7 (KL4:Kont U El) (KL6:Kont U El) (k4:Y4) (k6:Y6) (h4:∀ l0 aA p5 cA dA bA,KL4 (fr4 l0 aA p5 cA dA bA)=k4 l0 aA p5 cA dA bA) (h6:∀ l0 aA p5 eA cA dA bA gA hA fA,KL6 (fr6 l0 aA p5 eA cA dA bA gA hA fA)=k6 l0 aA p5 eA cA dA bA gA hA fA) (l0 aA p5 eA cA dA bA gA hA fA):(hid (ct7 (hid ct3) (hid (ct5 (hid ct3) KL4)) KL6)) (fr7 l0 aA p5 eA cA dA bA gA hA fA)=f7 k4 k6 l0 aA p5 eA cA dA bA gA hA fA:=by
  refine (congrFun (hid_eq _) _).trans <| (P7 l0 aA p5 eA cA dA bA gA hA fA (hid ct3) (hid (ct5 (hid ct3) KL4)) KL6).trans ?_
  show _=sh7 l0 aA p5 eA cA dA bA gA hA fA k6
  simp only [h6]
theorem T6 (KL4:Kont U El) (k4:Y4) (h4:∀ l0 aA p5 cA dA bA,KL4 (fr4 l0 aA p5 cA dA bA)=k4 l0 aA p5 cA dA bA):∀ (n:Nat),∀ l0 aA p5 eA cA dA bA gA hA fA,it6 (hid ct3) (hid (ct5 (hid ct3) KL4)) n (fr6 l0 aA p5 eA cA dA bA gA hA fA)=f6 k4 n l0 aA p5 eA cA dA bA gA hA fA:=by
  intro n
  induction n with
  | zero=>intros; rfl
  | succ n ih =>
    intro l0 aA p5 eA cA dA bA gA hA fA
    refine (P6 l0 aA p5 eA cA dA bA gA hA fA (hid ct3) (hid (ct5 (hid ct3) KL4)) (it6 (hid ct3) (hid (ct5 (hid ct3) KL4)) n)).trans ?_
    show _=sh6 l0 aA p5 eA cA dA bA gA hA fA (f5 k4) (f7 k4 (f6 k4 n))
    simp only [T5 KL4 k4 h4,T7 KL4 (it6 (hid ct3) (hid (ct5 (hid ct3) KL4)) n) k4 (f6 k4 n) h4 ih]
theorem H6 (KL4:Kont U El) (k4:Y4) (h4:∀ l0 aA p5 cA dA bA,KL4 (fr4 l0 aA p5 cA dA bA)=k4 l0 aA p5 cA dA bA) (l0 aA p5 eA cA dA bA gA hA fA):hid (it6 (hid ct3) (hid (ct5 (hid ct3) KL4)) 100000) (fr6 l0 aA p5 eA cA dA bA gA hA fA)=f6 k4 100000 l0 aA p5 eA cA dA bA gA hA fA:=(congrFun (hid_eq _) _).trans (T6 KL4 k4 h4 100000 l0 aA p5 eA cA dA bA gA hA fA)
theorem T4:∀ (n:Nat),∀ l0 aA p5 cA dA bA,it4 (hid ct3) n (fr4 l0 aA p5 cA dA bA)=f4 n l0 aA p5 cA dA bA:=by
  intro n
  induction n with
  | zero=>intros; rfl
  | succ n ih =>
    intro l0 aA p5 cA dA bA
    refine (P4 l0 aA p5 cA dA bA (hid ct3) (it4 (hid ct3) n)).trans ?_
    show _=sh4 l0 aA p5 cA dA bA f3 (f6 (f4 n) 100000)
    simp only [T3,H6 (it4 (hid ct3) n) (f4 n) ih]
theorem H4 (l0 aA p5 cA dA bA):hid (it4 (hid ct3) 100000) (fr4 l0 aA p5 cA dA bA)=f4 100000 l0 aA p5 cA dA bA:=(congrFun (hid_eq _) _).trans (T4 100000 l0 aA p5 cA dA bA)
theorem T2 (l0 aA p5):(hid ct2) (fr2 l0 aA p5)=f2 l0 aA p5:=by
  refine (congrFun (hid_eq _) _).trans <| (P2 l0 aA p5).trans ?_
  show _=sh2 l0 aA p5 (f4 100000)
  simp only [H4]
theorem T1 (l0 aA):(hid ct1) (fr1 l0 aA)=f1 l0 aA:=by
  refine (congrFun (hid_eq _) _).trans <| (P1 l0 aA).trans ?_
  show _=sh1 l0 aA f2
  simp only [T2]
theorem T0 (l crews):exec X bd (.seq none .d (.seq none .d (.seq (some nm1) .d (.seq none .d (.seq none .d (.seq none .d (.seq none .d (.seq none .d (.seq (some nm2) .d (.seq (some nm3) (.seq none .d (.block (.loop nm4 (.seq none .d (.seq none .d (.seq (some nm5) (.block (.seq none .d (.seq none .d (.block (.loop nm6 (.seq none .d (.seq none .d (.seq (some nm7) .d .d)))))))) .d)))))) .d)))))))))) (fr0 l crews) RR (fun _ _=>none) RR=f0 l crews:=by
  refine (P0 l crews).trans ?_
  show _=sh0 l crews f1
  simp only [T1]
theorem run (l crews):runFn X bd (.seq none .d (.seq none .d (.seq (some nm1) .d (.seq none .d (.seq none .d (.seq none .d (.seq none .d (.seq none .d (.seq (some nm2) .d (.seq (some nm3) (.seq none .d (.block (.loop nm4 (.seq none .d (.seq none .d (.seq (some nm5) (.block (.seq none .d (.seq none .d (.block (.loop nm6 (.seq none .d (.seq none .d (.seq (some nm7) .d .d)))))))) .d)))))) .d)))))))))) nmR [4] [] [(.lst .work l),(.int .i64 crews)]=f0 l crews:=T0 l crews
theorem backs (l : List Work) (crews : Int) (p : List Slot) (hv : okV l = true) (hp : p.length ≤ 200) (k4 : Y4) (i : Nat) (hi : i < p.length) (cA : List Slot) (dA bA : Int) (xs : List Int) (hx : xs.length ≤ 100) (hno : ∀ b ∈ xs, 0 < b → checkE l crews (p.set i ⟨(List.getD p i d_slot).sw, (List.getD p i d_slot).sc, IntKind.wrap .i64 ((List.getD p i d_slot).ss - b)⟩) ≠ 0) : ∀ (n j : Nat), xs.length < n + j → j ≤ xs.length →
    f6 k4 n l crews p (i:Int) cA dA bA xs (Int.ofNat xs.length) (j:Int)=f5 k4 l crews p cA dA bA:=by
  intro n
  induction n with
  | zero=>intro j h1 h2; omega
  | succ n ih =>
    intro j h1 h2
    show sh6 l crews p (i:Int) cA dA bA xs (Int.ofNat xs.length) (j:Int) (f5 k4) (f7 k4 (f6 k4 n))=_
    unfold sh6
    by_cases hj:j < xs.length
    · have e7 : f7 k4 (f6 k4 n) l crews p (i : Int) cA dA bA xs (Int.ofNat xs.length) (j : Int) = f5 k4 l crews p cA dA bA := by
        show f6 k4 n l crews p (i:Int) cA dA bA xs (Int.ofNat xs.length) (IntKind.wrap .i64 ((j:Int)+1))=_
        rw [wrapS j (by omega)]
        exact ih (j+1) (by omega) hj
      rw [iltT (by simp; omega),inbT hj,toNat_nat,toNat_nat,nltT hj,nleT (show p.length≤90000 by omega),inbT hi,nltT hi,hv,getD_lt hj,e7]
      cases hb:ilt 0 xs[j] with
      | false=>rfl
      | true =>
        have hne:=hno _ (List.getElem_mem hj) (iltI hb)
        have hq:(checkE l crews (List.set p i ⟨(List.getD p i d_slot).sw,(List.getD p i d_slot).sc,IntKind.wrap .i64 ((List.getD p i d_slot).ss - xs[j])⟩) == (0:Int))=false:=beq_eq_false_iff_ne.2 hne
        rw [hq]
        rfl
    · have : j = xs.length := by omega
      subst this
      rw [iltF (by simp),condF]
theorem slots (l : List Work) (crews : Int) (p : List Slot) (hv : okV l = true) (hp : p.length ≤ 200) (hno : ∀ (i : Nat) (b : Int), i < p.length → 0 < b → (b = 1 ∨ b = 2 ∨ b = (List.getD p i d_slot).ss) → checkE l crews (p.set i ⟨(List.getD p i d_slot).sw, (List.getD p i d_slot).sc, IntKind.wrap .i64 ((List.getD p i d_slot).ss - b)⟩) ≠ 0) : ∀ (n i : Nat), p.length < n + i → i ≤ p.length →
    f4 n l crews p p (Int.ofNat p.length) (i:Int)=outB true:=by
  intro n
  induction n with
  | zero=>intro i h1 h2; omega
  | succ n ih =>
    intro i h1 h2
    show sh4 l crews p p (Int.ofNat p.length) (i:Int) f3 (f6 (f4 n) 100000)=_
    unfold sh4
    by_cases hi:i < p.length
    · rw [iltT (by simp; omega), inbT hi, toNat_nat, condT, chkT]
      refine (backs l crews p hv hp (f4 n) i hi p (Int.ofNat p.length) (i:Int) [1,2,(List.getD p i d_slot).ss] (by simp) (fun b hb h0 => ?_) 100000 0 (by simp) (by simp)).trans ?_
      · simp only [List.mem_cons, List.not_mem_nil, or_false] at hb
        exact hno i b hi h0 hb
      · show f4 n l crews p p (Int.ofNat p.length) (IntKind.wrap .i64 ((i : Int) + 1)) = _
        rw [wrapS i (by omega)]
        exact ih (i+1) (by omega) hi
    · have : i = p.length := by omega
      subst this
      rw [iltF (by simp),condF]
      rfl
theorem f0_eq (l : List Work) (crews : Int) : f0 l crews = outB true := by
  show sh0 l crews f1=_
  unfold sh0
  cases hb:largeB l with
  | true=>rfl
  | false =>
    cases ilt (12:Int) (Int.ofNat l.length) with
    | true=>rfl
    | false =>
      have hv:=large_okV hb
      show sh1 l crews f2=_
      unfold sh1
      rw [hv,chkT]
      cases hval:validB l crews with
      | false =>
        have e1:greedyE l crews=1:=by unfold greedyE; rw [hval]; rfl
        have e2:greedyL l crews=[]:=by unfold greedyL; rw [hval]; rfl
        rw [e1,e2]
        rfl
      | true =>
        have hV:=valid_of hval
        have hl:=hV.len
        have hG:=greedy_GP hv hval
        have e1:greedyE l crews=0:=by unfold greedyE; rw [hval]; rfl
        have e3:boundE l crews=0:=by unfold boundE; rw [hval]; rfl
        have hval2:=valid_up hval
        obtain ⟨hk,hdep⟩:=valid_okE hv hval
        have hE:=okE_of hk
        generalize hp:greedyL l crews=p at hG
        have hP:=check_P hval hG.len hG.fn
        have hP2:=check_P hval2 hG.len hG.fn
        have c1:checkE l crews p=0:=by unfold checkE; rw [hP]
        have c2:checkI l crews p = -1:=by unfold checkI; rw [hP]
        have c3:checkE l 12 p=0:=by unfold checkE; rw [hP2]
        have hnf:∀ i,i < l.length→NoF l p i:=fun i hi=>fault_no (hG.fn i hi)
        obtain ⟨b1,b2⟩:=bnd_le hE hl hG.len (goodW_due hV.good) hnf (fun i hi=>ends_after hE hnf l.length i hi (hdep i hi)) l.length 0 0 0 (by omega) (by omega) (by omega) (by omega)
        have e4:boundZ l crews=bndG l (endsL l) l.length 0 0:=by unfold boundZ; rw [hval]; rfl
        have e5:costE l p=costG l p l.length 0 0:=by unfold costE costZ; rw [c3,hG.len]; rfl
        rw [e1,c1,c2,e3,c3,e4,e5,iltF (show ¬ costG l p l.length 0 0 < bndG l (endsL l) l.length 0 0 by omega),iltF (show ¬ bndG l (endsL l) l.length 0 0 < 0 by omega)]
        show f4 100000 l crews p p (Int.ofNat p.length) ((0:Nat):Int)=_
        refine slots l crews p hv (by have:=hG.len; omega) (fun i b hi h0 hbb hz => ?_) 100000 0 (by have:=hG.len; omega) (by omega)
        have hil:i < l.length:=by have:=hG.len; omega
        have hN:=hnf i hil
        obtain ⟨_,_,z3⟩:=check_no hz
        have hss:=hG.s9 i hil
        have hs0:=hN.s0
        have hw:IntKind.wrap .i64 ((List.getD p i d_slot).ss - b)=(List.getD p i d_slot).ss - b:=wrapI (by omega) (by omega)
        have z4:=z3 i hil
        rw [hw,hN.sw] at z4
        exact hG.mn i _ hil (by omega) z4
theorem ok:CtxOk Try.prog X:=ctxOk tab (spC awake.spOk (spC large.spOk (spC check.spOk (spC valid.spOk (spC greedy.spOk (spC bound.spOk (spC Costc.spOk (spC cloneS.spOk spN)))))))) dpN
theorem okM:MOk Try.prog X:=fun g sp h=>by cases h
theorem spec (l:List Work) (crews:Int):CallSpec Try.prog E 5 [(.lst .work l),(.int .i64 crews)] (.bool (true)) [] :=
  runFn_sound ok okM Try.call5 Try.func5 (by kernel_rfl) (by kernel_rfl) (by kernel_rfl) (by show 2≤129; decide) (by decide) (by rfl) ((run l crews).trans (f0_eq l crews))
noncomputable def sp:Sp U El:=fun args k=>match args with
  | [.lst .work l,.int .i64 crews]=>k (.bool (true)) []
  | _=>none
theorem spOk:SpOk Try.prog E 5 sp where
  det:=fun vs=>by
    unfold sp
    split
    · exact ⟨some (_,_),fun _=>rfl⟩
    · exact ⟨none,fun _=>rfl⟩
  ok:=fun vs k r h=>by
    unfold sp at h
    split at h
    · exact ⟨_,_,spec _ _,h⟩
    · cases h
end lawFaultless
end Go.Proofs.Ythdklallcljhlaa
