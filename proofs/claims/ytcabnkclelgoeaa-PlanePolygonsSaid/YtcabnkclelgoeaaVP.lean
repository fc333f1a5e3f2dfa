/- The law PlanePolygons by its own run. -/
import Derived.Test.YtcabnkclelgoeaaAW
import Derived.Test.YtcabnkclelgoeaaVC
namespace Go.Proofs.Ytcabnkclelgoeaa
set_option linter.unusedSectionVars false
set_option linter.unusedSimpArgs false
set_option linter.unusedVariables false
set_option maxRecDepth 100000
namespace lawPoly
noncomputable def bd:Code:=(Try.f7.body).getD .skip
noncomputable def X:Ctx U El:=⟨E,tds,zeros,eqs,specOf [(9,awake.sp),(12,rall.sp),(22,rvalid.sp),(28,twice.sp),(29,contains.sp),(30,hull.sp),(31,equalP.sp),(32,rhull.sp),(33,rtwice.sp),(34,rcontains.sp)],100000,130,dspecOf [],fun _=>none⟩
noncomputable def nmR:Norm U:=⟨[],[4],[],[],[],[],[]⟩
noncomputable def RR:Kont U El:=fun st=>normK nmR st (retFin [4] [])
noncomputable def nm1:Norm U:=⟨[],[0,3],[3],[],[],[],[]⟩
noncomputable def nm2:Norm U:=⟨[],[0,3,5,6,7,8,9,10,11,12,13],[3],[],[],[],[]⟩
noncomputable def nm3:Norm U:=⟨[],[0,3,5,6,7,8,9,10,11,12],[3],[],[],[],[]⟩
noncomputable def nm4:Norm U:=⟨[],[0,3,5,6,7,8,11,12],[3],[],[],[],[]⟩
noncomputable def nm5:Norm U:=⟨[],[0,3,5,6,7,8,12],[3],[],[],[],[]⟩
noncomputable def nm6:Norm U:=⟨[],[0,3,7,8],[3],[],[],[],[]⟩
abbrev Y1:=(List Pt)→Pt→R
abbrev Y2:=(List Pt)→Int→Int→Int→Int→(List Pt)→Int→Bool→Int→Int→Pt→R
abbrev Y3:=(List Pt)→Int→Int→Int→Int→(List Pt)→Int→Bool→Int→Pt→R
abbrev Y4:=(List Pt)→Int→Int→Int→Int→Bool→Int→Pt→R
abbrev Y5:=(List Pt)→Int→Int→Int→Int→Int→Pt→R
abbrev Y6:=(List Pt)→Int→Int→Pt→R
noncomputable def fr0 (l:List Pt) (q:Pt):St U El:=⟨[(0,(.lst .pt l)),(1,(.agg [(.int .i64 q.px),(.int .i64 q.py)]))],[]⟩
noncomputable def fr1 (l0:List Pt) (b3:Pt):St U El:=⟨[(0,(.lst .pt l0)),(3,(.ptr 3 0))],[(3,(.box 0 [(.int .i64 b3.px),(.int .i64 b3.py)]))]⟩
noncomputable def fr2 (l0:List Pt) (t5:Int) (e6:Int) (c7:Int) (f8:Int) (dA:List Pt) (cA:Int) (bA:Bool) (aA:Int) (wantHull13:Int) (b3:Pt):St U El:=⟨[(0,(.lst .pt l0)),(3,(.ptr 3 0)),(5,(.int .i64 t5)),(6,(.int .i64 e6)),(7,(.int .i64 c7)),(8,(.int .i64 f8)),(9,(.lst .pt dA)),(10,(.int .i64 cA)),(11,(.bool bA)),(12,(.int .i64 aA)),(13,(.int .i64 wantHull13))],[(3,(.box 0 [(.int .i64 b3.px),(.int .i64 b3.py)]))]⟩
noncomputable def fr3 (l0:List Pt) (t5:Int) (e6:Int) (c7:Int) (f8:Int) (dA:List Pt) (cA:Int) (bA:Bool) (aA:Int) (b3:Pt):St U El:=⟨[(0,(.lst .pt l0)),(3,(.ptr 3 0)),(5,(.int .i64 t5)),(6,(.int .i64 e6)),(7,(.int .i64 c7)),(8,(.int .i64 f8)),(9,(.lst .pt dA)),(10,(.int .i64 cA)),(11,(.bool bA)),(12,(.int .i64 aA))],[(3,(.box 0 [(.int .i64 b3.px),(.int .i64 b3.py)]))]⟩
noncomputable def fr4 (l0:List Pt) (t5:Int) (e6:Int) (c7:Int) (f8:Int) (bA:Bool) (aA:Int) (b3:Pt):St U El:=⟨[(0,(.lst .pt l0)),(3,(.ptr 3 0)),(5,(.int .i64 t5)),(6,(.int .i64 e6)),(7,(.int .i64 c7)),(8,(.int .i64 f8)),(11,(.bool bA)),(12,(.int .i64 aA))],[(3,(.box 0 [(.int .i64 b3.px),(.int .i64 b3.py)]))]⟩
noncomputable def fr5 (l0:List Pt) (t5:Int) (e6:Int) (c7:Int) (f8:Int) (aA:Int) (b3:Pt):St U El:=⟨[(0,(.lst .pt l0)),(3,(.ptr 3 0)),(5,(.int .i64 t5)),(6,(.int .i64 e6)),(7,(.int .i64 c7)),(8,(.int .i64 f8)),(12,(.int .i64 aA))],[(3,(.box 0 [(.int .i64 b3.px),(.int .i64 b3.py)]))]⟩
noncomputable def fr6 (l0:List Pt) (c7:Int) (f8:Int) (b3:Pt):St U El:=⟨[(0,(.lst .pt l0)),(3,(.ptr 3 0)),(7,(.int .i64 c7)),(8,(.int .i64 f8))],[(3,(.box 0 [(.int .i64 b3.px),(.int .i64 b3.py)]))]⟩
noncomputable def sh0 (l:List Pt) (q:Pt) (k1:Y1):R :=
  condB (!(true)) (some ((.bool false),[])) (condB (ilt (60:Int) (Int.ofNat (List.length l))) (condB (ile (Int.ofNat (List.length l)) (1000:Int)) (some ((.bool true),[])) (condB (ilt (1005:Int) (Int.ofNat (List.length l))) (some ((.bool true),[])) (k1 l q))) (condB (ilt (1005:Int) (Int.ofNat (List.length l))) (some ((.bool true),[])) (k1 l q)))
noncomputable def sh1 (l0:List Pt) (b3:Pt) (k2:Y2):R :=
  chk (nle (List.length l0) 90000) (chk (nle (List.length l0) 90000) (chk (nle (List.length l0) 90000) (chk (nle (List.length l0) 90000) (condB (!(allB l0)) (k2 l0 (twiZ l0) (polE l0) (conZ l0 b3) (conE l0 b3) (hulL l0) (hulE l0) (allB l0) (1:Int) (1:Int) b3) (condB (ilt (1000:Int) (Int.ofNat (List.length l0))) (k2 l0 (twiZ l0) (polE l0) (conZ l0 b3) (conE l0 b3) (hulL l0) (hulE l0) (allB l0) (4:Int) (4:Int) b3) (condB ((Int.ofNat (List.length l0)) == (0:Int)) (k2 l0 (twiZ l0) (polE l0) (conZ l0 b3) (conE l0 b3) (hulL l0) (hulE l0) (allB l0) (3:Int) (14:Int) b3) (condB (ilt (Int.ofNat (List.length l0)) (3:Int)) (k2 l0 (twiZ l0) (polE l0) (conZ l0 b3) (conE l0 b3) (hulL l0) (hulE l0) (allB l0) (3:Int) (0:Int) b3) (k2 l0 (twiZ l0) (polE l0) (conZ l0 b3) (conE l0 b3) (hulL l0) (hulE l0) (allB l0) (0:Int) (0:Int) b3))))))))
noncomputable def sh2 (l0:List Pt) (t5:Int) (e6:Int) (c7:Int) (f8:Int) (dA:List Pt) (cA:Int) (bA:Bool) (aA:Int) (wantHull13:Int) (b3:Pt) (k3:Y3):R :=
  condB (e6 != aA) (some ((.bool false),[])) (condB (cA != wantHull13) (some ((.bool false),[])) (k3 l0 t5 e6 c7 f8 dA cA bA aA b3))
noncomputable def sh3 (l0:List Pt) (t5:Int) (e6:Int) (c7:Int) (f8:Int) (dA:List Pt) (cA:Int) (bA:Bool) (aA:Int) (b3:Pt) (k4:Y4):R :=
  condB (cA == (0:Int)) (chk ((allB l0&&(nlt 0 (List.length l0)&&nle (List.length l0) 1000))) (chk (nle (List.length dA) 90000) (condB (!(eqL dA (wrapL l0))) (some ((.bool false),[])) (condB (cA != (0:Int)) (condB ((Int.ofNat (List.length dA)) != (0:Int)) (some ((.bool false),[])) (k4 l0 t5 e6 c7 f8 bA aA b3)) (k4 l0 t5 e6 c7 f8 bA aA b3))))) (condB (cA != (0:Int)) (condB ((Int.ofNat (List.length dA)) != (0:Int)) (some ((.bool false),[])) (k4 l0 t5 e6 c7 f8 bA aA b3)) (k4 l0 t5 e6 c7 f8 bA aA b3))
noncomputable def sh4 (l0:List Pt) (t5:Int) (e6:Int) (c7:Int) (f8:Int) (bA:Bool) (aA:Int) (b3:Pt) (k5:Y5):R :=
  condB bA (condB (!(vB b3)) (k5 l0 t5 e6 c7 f8 (1:Int) b3) (k5 l0 t5 e6 c7 f8 aA b3)) (k5 l0 t5 e6 c7 f8 aA b3)
noncomputable def sh5 (l0:List Pt) (t5:Int) (e6:Int) (c7:Int) (f8:Int) (aA:Int) (b3:Pt) (k6:Y6):R :=
  condB (f8 != aA) (some ((.bool false),[])) (condB (e6 == (0:Int)) (chk ((allB l0&&nle (List.length l0) 1000)) (condB (t5 != (twiS l0)) (some ((.bool false),[])) (condB (e6 != (0:Int)) (condB (t5 != (0:Int)) (some ((.bool false),[])) (k6 l0 c7 f8 b3)) (k6 l0 c7 f8 b3)))) (condB (e6 != (0:Int)) (condB (t5 != (0:Int)) (some ((.bool false),[])) (k6 l0 c7 f8 b3)) (k6 l0 c7 f8 b3)))
noncomputable def sh6 (l0:List Pt) (c7:Int) (f8:Int) (b3:Pt):R :=
  condB (f8 == (0:Int)) (chk ((allB l0&&(vB b3&&(nlt 0 (List.length l0)&&nle (List.length l0) 1000)))) (condB (c7 == (conS l0 b3)) (some ((.bool true),[])) (condB (f8 != (0:Int)) (some ((.bool (c7 == (0:Int))),[])) (some ((.bool false),[]))))) (condB (f8 != (0:Int)) (some ((.bool (c7 == (0:Int))),[])) (some ((.bool false),[])))
noncomputable def ct1:Kont U El:=fun st=>exec X (cdp [1,1,1] bd) (.seq none .d (.seq none .d (.seq none .d (.seq none .d (.seq none .d (.seq (some nm2) .d (.seq (some nm3) .d (.seq (some nm4) .d (.seq (some nm5) .d (.seq none .d (.seq (some nm6) .d .d))))))))))) st RR (fun _ _=>none) RR
noncomputable def ct2:Kont U El:=fun st=>exec X (cdp [1,1,1,1,1,1,1,1,1] bd) (.seq (some nm3) .d (.seq (some nm4) .d (.seq (some nm5) .d (.seq none .d (.seq (some nm6) .d .d))))) st RR (fun _ _=>none) RR
noncomputable def ct3:Kont U El:=fun st=>exec X (cdp [1,1,1,1,1,1,1,1,1,1] bd) (.seq (some nm4) .d (.seq (some nm5) .d (.seq none .d (.seq (some nm6) .d .d)))) st RR (fun _ _=>none) RR
noncomputable def ct4:Kont U El:=fun st=>exec X (cdp [1,1,1,1,1,1,1,1,1,1,1] bd) (.seq (some nm5) .d (.seq none .d (.seq (some nm6) .d .d))) st RR (fun _ _=>none) RR
noncomputable def ct5:Kont U El:=fun st=>exec X (cdp [1,1,1,1,1,1,1,1,1,1,1,1] bd) (.seq none .d (.seq (some nm6) .d .d)) st RR (fun _ _=>none) RR
noncomputable def ct6:Kont U El:=fun st=>exec X (cdp [1,1,1,1,1,1,1,1,1,1,1,1,1,1] bd) .d st RR (fun _ _=>none) RR
theorem P0 (l q):exec X (cdp [] bd) (.seq none .d (.seq none .d (.seq (some nm1) .d (.seq none .d (.seq none .d (.seq none .d (.seq none .d (.seq none .d (.seq (some nm2) .d (.seq (some nm3) .d (.seq (some nm4) .d (.seq (some nm5) .d (.seq none .d (.seq (some nm6) .d .d)))))))))))))) (fr0 l q) RR (fun _ _=>none) RR=sh0 l q (fun y0 y1=>(hid ct1) (fr1 y0 y1)):=by kernel_rfl
theorem P1 (l0 b3):ct1 (fr1 l0 b3)=sh1 l0 b3 (fun y0 y1 y2 y3 y4 y5 y6 y7 y8 y9 y10=>(hid ct2) (fr2 y0 y1 y2 y3 y4 y5 y6 y7 y8 y9 y10)):=by kernel_rfl
theorem P2 (l0 t5 e6 c7 f8 dA cA bA aA wantHull13 b3):ct2 (fr2 l0 t5 e6 c7 f8 dA cA bA aA wantHull13 b3)=sh2 l0 t5 e6 c7 f8 dA cA bA aA wantHull13 b3 (fun y0 y1 y2 y3 y4 y5 y6 y7 y8 y9=>(hid ct3) (fr3 y0 y1 y2 y3 y4 y5 y6 y7 y8 y9)):=by kernel_rfl
theorem P3 (l0 t5 e6 c7 f8 dA cA bA aA b3):ct3 (fr3 l0 t5 e6 c7 f8 dA cA bA aA b3)=sh3 l0 t5 e6 c7 f8 dA cA bA aA b3 (fun y0 y1 y2 y3 y4 y5 y6 y7=>(hid ct4) (fr4 y0 y1 y2 y3 y4 y5 y6 y7)):=by kernel_rfl
theorem P4 (l0 t5 e6 c7 f8 bA aA b3):ct4 (fr4 l0 t5 e6 c7 f8 bA aA b3)=sh4 l0 t5 e6 c7 f8 bA aA b3 (fun y0 y1 y2 y3 y4 y5 y6=>(hid ct5) (fr5 y0 y1 y2 y3 y4 y5 y6)):=by kernel_rfl
theorem P5 (l0 t5 e6 c7 f8 aA b3):ct5 (fr5 l0 t5 e6 c7 f8 aA b3)=sh5 l0 t5 e6 c7 f8 aA b3 (fun y0 y1 y2 y3=>(hid ct6) (fr6 y0 y1 y2 y3)):=by kernel_rfl
theorem P6 (l0 c7 f8 b3):ct6 (fr6 l0 c7 f8 b3)=sh6 l0 c7 f8 b3:=by kernel_rfl
noncomputable def f6 (l0:List Pt) (c7:Int) (f8:Int) (b3:Pt):R:=sh6 l0 c7 f8 b3
noncomputable def f5 (l0:List Pt) (t5:Int) (e6:Int) (c7:Int) (f8:Int) (aA:Int) (b3:Pt):R:=sh5 l0 t5 e6 c7 f8 aA b3 f6
noncomputable def f4 (l0:List Pt) (t5:Int) (e6:Int) (c7:Int) (f8:Int) (bA:Bool) (aA:Int) (b3:Pt):R:=sh4 l0 t5 e6 c7 f8 bA aA b3 f5
noncomputable def f3 (l0:List Pt) (t5:Int) (e6:Int) (c7:Int) (f8:Int) (dA:List Pt) (cA:Int) (bA:Bool) (aA:Int) (b3:Pt):R:=sh3 l0 t5 e6 c7 f8 dA cA bA aA b3 f4
noncomputable def f2 (l0:List Pt) (t5:Int) (e6:Int) (c7:Int) (f8:Int) (dA:List Pt) (cA:Int) (bA:Bool) (aA:Int) (wantHull13:Int) (b3:Pt):R:=sh2 l0 t5 e6 c7 f8 dA cA bA aA wantHull13 b3 f3
noncomputable def f1 (l0:List Pt) (b3:Pt):R:=sh1 l0 b3 f2
noncomputable def f0 (l:List Pt) (q:Pt):R:=sh0 l q f1
theorem T6 (l0 c7 f8 b3):(hid ct6) (fr6 l0 c7 f8 b3)=f6 l0 c7 f8 b3:=by
  refine (congrFun (hid_eq _) _).trans <| (P6 l0 c7 f8 b3).trans ?_
  show _=sh6 l0 c7 f8 b3
  rfl
theorem T5 (l0 t5 e6 c7 f8 aA b3):(hid ct5) (fr5 l0 t5 e6 c7 f8 aA b3)=f5 l0 t5 e6 c7 f8 aA b3:=by
  refine (congrFun (hid_eq _) _).trans <| (P5 l0 t5 e6 c7 f8 aA b3).trans ?_
  show _=sh5 l0 t5 e6 c7 f8 aA b3 f6
  simp only [T6]
theorem T4 (l0 t5 e6 c7 f8 bA aA b3):(hid ct4) (fr4 l0 t5 e6 c7 f8 bA aA b3)=f4 l0 t5 e6 c7 f8 bA aA b3:=by
  refine (congrFun (hid_eq _) _).trans <| (P4 l0 t5 e6 c7 f8 bA aA b3).trans ?_
  show _=sh4 l0 t5 e6 c7 f8 bA aA b3 f5
  simp only [T5]
theorem T3 (l0 t5 e6 c7 f8 dA cA bA aA b3):(hid ct3) (fr3 l0 t5 e6 c7 f8 dA cA bA aA b3)=f3 l0 t5 e6 c7 f8 dA cA bA aA b3:=by
  refine (congrFun (hid_eq _) _).trans <| (P3 l0 t5 e6 c7 f8 dA cA bA aA b3).trans ?_
  show _=sh3 l0 t5 e6 c7 f8 dA cA bA aA b3 f4
  simp only [T4]
theorem T2 (l0 t5 e6 c7 f8 dA cA bA aA wantHull13 b3):(hid ct2) (fr2 l0 t5 e6 c7 f8 dA cA bA aA wantHull13 b3)=f2 l0 t5 e6 c7 f8 dA cA bA aA wantHull13 b3:=by
  refine (congrFun (hid_eq _) _).trans <| (P2 l0 t5 e6 c7 f8 dA cA bA aA wantHull13 b3).trans ?_
  show _=sh2 l0 t5 e6 c7 f8 dA cA bA aA wantHull13 b3 f3
  simp only [T3]
theorem T1 (l0 b3):(hid ct1) (fr1 l0 b3)=f1 l0 b3:=by
  refine (congrFun (hid_eq _) _).trans <| (P1 l0 b3).trans ?_
  show _=sh1 l0 b3 f2
  simp only [T2]
theorem T0 (l q):exec X bd (.seq none .d (.seq none .d (.seq (some nm1) .d (.seq none .d (.seq none .d (.seq none .d (.seq none .d (.seq none .d (.seq (some nm2) .d (.seq (some nm3) .d (.seq (some nm4) .d (.seq (some nm5) .d (.seq none .d (.seq (some nm6) .d .d)))))))))))))) (fr0 l q) RR (fun _ _=>none) RR=f0 l q:=by
  refine (P0 l q).trans ?_
  show _=sh0 l q f1
  simp only [T1]
theorem run (l q):runFn X bd (.seq none .d (.seq none .d (.seq (some nm1) .d (.seq none .d (.seq none .d (.seq none .d (.seq none .d (.seq none .d (.seq (some nm2) .d (.seq (some nm3) .d (.seq (some nm4) .d (.seq (some nm5) .d (.seq none .d (.seq (some nm6) .d .d)))))))))))))) nmR [4] [] [(.lst .pt l),(.agg [(.int .i64 q.px),(.int .i64 q.py)])]=f0 l q:=T0 l q
theorem f0_eq (l : List Pt) (q : Pt) : f0 l q = outB true := by
  have key:l.length≤1005→f1 l q=outB true:=fun hl=>by
    have h9:nle (List.length l) 90000=true:=nleT (by omega)
    show sh1 l q f2=_
    unfold sh1
    rw [h9]
    simp only [chkT]
    have hE:hulE l=(bif allB l then (bif (Int.ofNat l.length) == (0:Int) then 14 else bif ilt 1000 (Int.ofNat l.length) then 4 else 0) else 1):=rfl
    have pE:polE l=(bif allB l then (bif ilt (Int.ofNat l.length) 3 then 3 else bif ilt 1000 (Int.ofNat l.length) then 4 else 0) else 1):=rfl
    have fin:∀ (w:Int),polE l=w→f4 l (twiZ l) (polE l) (conZ l q) (conE l q) (allB l) w q=outB true:=fun w hw=>by
      have e5 : ∀ w', conE l q = w' → f5 l (twiZ l) (polE l) (conZ l q) (conE l q) w' q = outB true := fun w' hw' => by
        have e6:f6 l (conZ l q) (conE l q) q=outB true:=by
          show sh6 l (conZ l q) (conE l q) q=_
          unfold sh6
          by_cases hc:conE l q=0
          · have hq : vB q = true ∧ polE l = 0 := by
              unfold conE at hc
              cases hv:vB q
              · rw [hv] at hc; cases hc
              · rw [hv] at hc; exact ⟨rfl,hc⟩
            obtain ⟨ha,h3,h10⟩:=polE_zero hq.2
            have hz:conZ l q=conS l q:=by
              unfold conZ
              rw [hc]
              exact con_same (fun e=>by rw [e] at h3; simp at h3) q
            rw [hc,hz,ha,hq.1,nltT (show 0 < l.length by omega),nleT h10,beq_self_eq_true,beq_self_eq_true]
            rfl
          · have hz : conZ l q = 0 := by unfold conZ; rw [beq_eq_false_iff_ne.2 hc]; rfl
            rw [hz,beq_eq_false_iff_ne.2 hc,bne_iff_ne.2 hc]
            rfl
        show sh5 l _ _ _ _ w' q f6=_
        unfold sh5
        rw [hw',bne_self_eq_false]
        by_cases hc:polE l=0
        · obtain ⟨ha, h3, h10⟩ := polE_zero hc
          have hz:twiZ l=twiS l:=by unfold twiZ; rw [hc]; rfl
          rw [hc,hz,ha,nleT h10,beq_self_eq_true,bne_self_eq_false,bne_self_eq_false]
          rw [← hw']
          exact e6
        · have hz : twiZ l = 0 := by unfold twiZ; rw [beq_eq_false_iff_ne.2 hc]; rfl
          rw [hz,beq_eq_false_iff_ne.2 hc,bne_iff_ne.2 hc,bne_self_eq_false]
          rw [← hw']
          exact e6
      show sh4 l _ _ _ _ (allB l) w q f5=_
      unfold sh4
      cases ha:allB l
      · refine e5 w ?_
        rw [pE,ha] at hw
        have hp:polE l=1:=by rw [pE,ha]; rfl
        unfold conE
        cases vB q
        · exact hw
        · exact hp.trans hw
      · cases hv : vB q
        · refine e5 1 ?_
          unfold conE; rw [hv]; rfl
        · refine e5 w ?_
          unfold conE; rw [hv]; exact hw
    have mid:∀ (w wh:Int),polE l=w→hulE l=wh→f2 l (twiZ l) (polE l) (conZ l q) (conE l q) (hulL l) (hulE l) (allB l) w wh q=outB true:=fun w wh hw hwh=>by
      show sh2 l _ _ _ _ _ _ _ w wh q f3=_
      unfold sh2
      rw [hw,hwh,bne_self_eq_false,bne_self_eq_false]
      rw [← hw,← hwh]
      show sh3 l _ _ _ _ (hulL l) (hulE l) (allB l) (polE l) q f4=_
      unfold sh3
      by_cases hc:hulE l=0
      · have h3 : allB l = true ∧ l ≠ [] ∧ l.length ≤ 1000 := by
          rw [hE] at hc
          cases ha:allB l
          · rw [ha] at hc; cases hc
          · rw [ha] at hc
            by_cases h0:Int.ofNat l.length=0
            · rw [beq_iff_eq.2 h0] at hc; cases hc
            · rw [beq_eq_false_iff_ne.2 h0] at hc
              by_cases h1:1000 < Int.ofNat l.length
              · rw [iltT h1] at hc; cases hc
              · exact ⟨rfl,fun e=>h0 (by rw [e]; rfl),by simp at h1; omega⟩
        have hz:hulL l=wrapL l:=by unfold hulL; rw [hc]; exact hulC_wrap h3.2.1
        have hle:(hulL l).length≤l.length:=by unfold hulL; rw [hc]; exact hulC_le h3.2.1
        rw [hc,nleT (show (hulL l).length≤90000 by omega),hz,eqL_iff.2 rfl,h3.1,nltT (List.length_pos_iff.2 h3.2.1),nleT h3.2.2,bne_self_eq_false,beq_self_eq_true]
        have:=fin (polE l) rfl
        rw [h3.1] at this
        exact this
      · have hz : hulL l = [] := by unfold hulL; rw [beq_eq_false_iff_ne.2 hc]; rfl
        rw [beq_eq_false_iff_ne.2 hc,bne_iff_ne.2 hc,hz]
        exact fin (polE l) rfl
    cases ha:allB l
    · have := mid 1 1 (by rw [pE, ha]; rfl) (by rw [hE, ha]; rfl)
      rw [ha] at this
      exact this
    · by_cases h1 : 1000 < Int.ofNat l.length
      · rw [iltT h1]
        have:=mid 4 4 (by rw [pE,ha,iltF (show ¬ Int.ofNat l.length < 3 by omega),iltT h1]; rfl) (by rw [hE,ha,beq_eq_false_iff_ne.2 (show Int.ofNat l.length≠0 by omega),iltT h1]; rfl)
        rw [ha] at this
        exact this
      · rw [iltF h1]
        by_cases h0:Int.ofNat l.length=0
        · rw [beq_iff_eq.2 h0]
          have:=mid 3 14 (by rw [pE,ha,iltT (show Int.ofNat l.length < 3 by omega)]; rfl) (by rw [hE,ha,beq_iff_eq.2 h0]; rfl)
          rw [ha] at this
          exact this
        · rw [beq_eq_false_iff_ne.2 h0]
          by_cases h3:Int.ofNat l.length < 3
          · rw [iltT h3]
            have:=mid 3 0 (by rw [pE,ha,iltT h3]; rfl) (by rw [hE,ha,beq_eq_false_iff_ne.2 h0,iltF h1]; rfl)
            rw [ha] at this
            exact this
          · rw [iltF h3]
            have:=mid 0 0 (by rw [pE,ha,iltF h3,iltF h1]; rfl) (by rw [hE,ha,beq_eq_false_iff_ne.2 h0,iltF h1]; rfl)
            rw [ha] at this
            exact this
  show sh0 l q f1=_
  unfold sh0
  rw [show (!true)=false from rfl,condF]
  by_cases h1:1005 < Int.ofNat l.length
  · rw [iltT h1, iltT (show 60 < Int.ofNat l.length by omega), ileF (show ¬ Int.ofNat l.length ≤ 1000 by omega)]
    rfl
  · have hk := key (by simp at h1; omega)
    rw [iltF h1]
    by_cases h2:60 < Int.ofNat l.length
    · rw [iltT h2]
      by_cases h3:Int.ofNat l.length≤1000
      · rw [ileT h3]; rfl
      · rw [ileF h3]; exact hk
    · rw [iltF h2]; exact hk
theorem ok:CtxOk Try.prog X:=ctxOk tab (spC awake.spOk (spC rall.spOk (spC rvalid.spOk (spC twice.spOk (spC contains.spOk (spC hull.spOk (spC equalP.spOk (spC rhull.spOk (spC rtwice.spOk (spC rcontains.spOk spN)))))))))) dpN
theorem okM:MOk Try.prog X:=fun g sp h=>by cases h
theorem spec (l:List Pt) (q:Pt):CallSpec Try.prog E 7 [(.lst .pt l),(.agg [(.int .i64 q.px),(.int .i64 q.py)])] (.bool (true)) [] :=
  runFn_sound ok okM Try.call7 Try.func7 (by kernel_rfl) (by kernel_rfl) (by kernel_rfl) (by show 2≤130; decide) (by decide) (by rfl) ((run l q).trans (f0_eq l q))
noncomputable def sp:Sp U El:=fun args k=>match args with
  | [.lst .pt l,.agg [.int .i64 q_px,.int .i64 q_py]]=>k (.bool (true)) []
  | _=>none
theorem spOk:SpOk Try.prog E 7 sp where
  det:=fun vs=>by
    unfold sp
    split
    · exact ⟨some (_,_),fun _=>rfl⟩
    · exact ⟨none,fun _=>rfl⟩
  ok:=fun vs k r h=>by
    unfold sp at h
    split at h
    · exact ⟨_,_,spec _ ⟨_,_⟩,h⟩
    · cases h
end lawPoly
end Go.Proofs.Ytcabnkclelgoeaa
