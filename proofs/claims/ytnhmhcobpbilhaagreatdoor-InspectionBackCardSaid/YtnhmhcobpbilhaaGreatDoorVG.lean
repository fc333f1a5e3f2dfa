/- The worst window: the code's and the document's. -/
import Derived.Test.YtnhmhcobpbilhaaGreatDoorVF
namespace Go.Proofs.YtnhmhcobpbilhaaGreatDoor
variable [Drw]
set_option linter.unusedSectionVars false
set_option linter.unusedSimpArgs false
set_option linter.unusedVariables false
set_option maxRecDepth 100000
theorem at_bound {w:Int} {d:Df} (hw:0≤w) (ha:0≤d.a∧d.a≤16777216):0≤atZ w d∧atZ w d≤16777216:=by
  unfold atZ
  cases h:ilt 0 (d.a - w)
  · simp
  · have:=iltI h; simp only [cond_true]; omega
namespace worst
noncomputable def bd:Code:=(Tryz.f18.body).getD .skip
noncomputable def X:Ctx U El:=⟨E,tds,zeros,eqs,specOf [(10,valid.sp),(37,touch.sp)],100000,54,dspecOf [],fun _=>none⟩
noncomputable def nmR:Norm U:=⟨[],[6,7,8],[],[],[],[],[]⟩
noncomputable def RR:Kont U El:=fun st=>normK nmR st (retFin [6,7,8] [])
noncomputable def nm1:Norm U:=⟨[],[3,5],[3,5],[],[],[],[(3,0,.df)]⟩
noncomputable def nm2:Norm U:=⟨[],[10,11],[],[],[],[],[]⟩
noncomputable def nm3:Norm U:=⟨[],[5,9,10,11,32,33,34],[3,5],[],[],[],[(3,0,.df)]⟩
noncomputable def nm4:Norm U:=⟨[],[5,9,10,11,32,33,34],[3,5],[],[],[],[(3,0,.df)]⟩
abbrev Y1:=(List Df)→Int→R
abbrev Y2:=Int→Int→R
abbrev Y3:=Int→Int→(List Df)→Int→Int→(List Df)→Int→R
abbrev Y4:=Int→Int→(List Df)→Int→Int→(List Df)→Int→R
noncomputable def fr0 (l:List Df) (L:Int) (w:Int):St U El:=⟨[(0,(.lst .df l)),(1,(.int .i64 L)),(2,(.int .i64 w))],[]⟩
noncomputable def fr1 (cA:List Df) (bA:Int):St U El:=⟨[(3,(.ptr 3 0)),(5,(.ptr 5 0))],[(3,(.box 0 [(.lst .df cA)])),(5,(.box 0 [(.int .i64 bA)]))]⟩
noncomputable def fr2 (aA:Int) (dA:Int):St U El:=⟨[(10,(.int .i64 aA)),(11,(.int .i64 dA))],[]⟩
noncomputable def fr3 (aA:Int) (dA:Int) (fA:List Df) (gA:Int) (eA:Int) (cA:List Df) (bA:Int):St U El:=⟨[(5,(.ptr 5 0)),(9,(.fn 37 [] [(.ptr 3 0),(.ptr 5 0)])),(10,(.int .i64 aA)),(11,(.int .i64 dA)),(32,(.lst .df fA)),(33,(.int .i64 gA)),(34,(.int .i64 eA))],[(3,(.box 0 [(.lst .df cA)])),(5,(.box 0 [(.int .i64 bA)]))]⟩
noncomputable def fr4 (aA:Int) (dA:Int) (fA:List Df) (gA:Int) (eA:Int) (cA:List Df) (bA:Int):St U El:=⟨[(5,(.ptr 5 0)),(9,(.fn 37 [] [(.ptr 3 0),(.ptr 5 0)])),(10,(.int .i64 aA)),(11,(.int .i64 dA)),(32,(.lst .df fA)),(33,(.int .i64 gA)),(34,(.int .i64 eA))],[(3,(.box 0 [(.lst .df cA)])),(5,(.box 0 [(.int .i64 bA)]))]⟩
noncomputable def sh0 (l:List Df) (L:Int) (w:Int) (k1:Y1):R :=
  condB (!(validB L l)) (some ((.tup [(.int .i64 (0:Int)),(.int .i64 (0:Int)),(.int .i64 (1:Int))]),[])) (condB (ilt w (0:Int)) (some ((.tup [(.int .i64 (0:Int)),(.int .i64 (0:Int)),(.int .i64 (2:Int))]),[])) (condB (ilt L w) (some ((.tup [(.int .i64 (0:Int)),(.int .i64 (0:Int)),(.int .i64 (2:Int))]),[])) (k1 l w)))
noncomputable def sh1 (cA:List Df) (bA:Int) (k3:Y3):R :=
  chk ((okW cA&&(pos0 (0:Int)&&pos0 bA))) (k3 (winZ cA (0:Int) bA) (0:Int) cA (Int.ofNat (List.length cA)) (0:Int) cA bA)
noncomputable def sh2 (aA:Int) (dA:Int):R :=
  some ((.tup [(.int .i64 aA),(.int .i64 dA),(.int .i64 (0:Int))]),[])
noncomputable def sh3 (aA:Int) (dA:Int) (fA:List Df) (gA:Int) (eA:Int) (cA:List Df) (bA:Int) (k2:Y2) (k4:Y4):R :=
  condB (ilt eA gA) (chk (inb eA (List.length fA)) (chk ((okW cA&&(pos0 (bif ilt (0:Int) (IntKind.wrap .i64 ((List.getD fA (Int.toNat eA) d_df).a - bA)) then (IntKind.wrap .i64 ((List.getD fA (Int.toNat eA) d_df).a - bA)) else (0:Int))&&pos0 bA))) (condB (ilt aA (winZ cA (bif ilt (0:Int) (IntKind.wrap .i64 ((List.getD fA (Int.toNat eA) d_df).a - bA)) then (IntKind.wrap .i64 ((List.getD fA (Int.toNat eA) d_df).a - bA)) else (0:Int)) bA)) (k4 (winZ cA (bif ilt (0:Int) (IntKind.wrap .i64 ((List.getD fA (Int.toNat eA) d_df).a - bA)) then (IntKind.wrap .i64 ((List.getD fA (Int.toNat eA) d_df).a - bA)) else (0:Int)) bA) (bif ilt (0:Int) (IntKind.wrap .i64 ((List.getD fA (Int.toNat eA) d_df).a - bA)) then (IntKind.wrap .i64 ((List.getD fA (Int.toNat eA) d_df).a - bA)) else (0:Int)) fA gA eA cA bA) (k4 aA dA fA gA eA cA bA)))) (k2 aA dA)
noncomputable def sh4 (aA:Int) (dA:Int) (fA:List Df) (gA:Int) (eA:Int) (cA:List Df) (bA:Int) (k3:Y3):R :=
  k3 aA dA fA gA (IntKind.wrap .i64 (eA+(1:Int))) cA bA
noncomputable def it3 (Kb2:Kont U El) (n:Nat):Kont U El:=iter nm3 (fun st' K'=>exec X (cdp [1,1,1,1,0,1,0,0] bd) (.seq none .d (.seq none .d (.seq (some nm4) .d .d))) st' K' (Eblk 1 (cutK nm2 Kb2) (fun _ _=>none)) RR) n
noncomputable def ct1:Kont U El:=fun st=>exec X (cdp [1,1] bd) (.seq none .d (.seq none .d (.seq (some nm2) (.seq none .d (.block (.loop nm3 (.seq none .d (.seq none .d (.seq (some nm4) .d .d)))))) .d))) st RR (fun _ _=>none) RR
noncomputable def ct2:Kont U El:=fun st=>exec X (cdp [1,1,1,1,1] bd) .d st RR (fun _ _=>none) RR
noncomputable def ct4 (Kb2 Kb3:Kont U El):Kont U El:=fun st=>exec X (cdp [1,1,1,1,0,1,0,0,1,1,1] bd) .d st (cutK nm3 Kb3) (Eblk 1 (cutK nm2 Kb2) (fun _ _=>none)) RR
theorem P0 (l L w):exec X (cdp [] bd) (.seq none .d (.seq (some nm1) .d (.seq none .d (.seq none .d (.seq (some nm2) (.seq none .d (.block (.loop nm3 (.seq none .d (.seq none .d (.seq (some nm4) .d .d)))))) .d))))) (fr0 l L w) RR (fun _ _=>none) RR=sh0 l L w (fun y0 y1=>(hid ct1) (fr1 y0 y1)):=by kernel_rfl
theorem P1 (cA bA):ct1 (fr1 cA bA)=sh1 cA bA (fun y0 y1 y2 y3 y4 y5 y6=>(hid (it3 (hid ct2) 100000)) (fr3 y0 y1 y2 y3 y4 y5 y6)):=by kernel_rfl
theorem P2 (aA dA):ct2 (fr2 aA dA)=sh2 aA dA:=by kernel_rfl
theorem P3 (aA dA fA gA eA cA bA) (Kb2 Kb3:Kont U El):exec X (cdp [1,1,1,1,0,1,0,0] bd) (.seq none .d (.seq none .d (.seq (some nm4) .d .d))) (fr3 aA dA fA gA eA cA bA) (cutK nm3 Kb3) (Eblk 1 (cutK nm2 Kb2) (fun _ _=>none)) RR=sh3 aA dA fA gA eA cA bA (fun y0 y1=>Kb2 (fr2 y0 y1)) (fun y0 y1 y2 y3 y4 y5 y6=>(hid (ct4 Kb2 Kb3)) (fr4 y0 y1 y2 y3 y4 y5 y6)):=by kernel_rfl
theorem P4 (aA dA fA gA eA cA bA) (Kb2 Kb3:Kont U El):ct4 Kb2 Kb3 (fr4 aA dA fA gA eA cA bA)=sh4 aA dA fA gA eA cA bA (fun y0 y1 y2 y3 y4 y5 y6=>Kb3 (fr3 y0 y1 y2 y3 y4 y5 y6)):=by kernel_rfl
noncomputable def f2 (aA:Int) (dA:Int):R:=sh2 aA dA
noncomputable def f4 (k3:Y3) (aA:Int) (dA:Int) (fA:List Df) (gA:Int) (eA:Int) (cA:List Df) (bA:Int):R:=sh4 aA dA fA gA eA cA bA k3
noncomputable def f3:Nat→Y3
  | 0=>fun _ _ _ _ _ _ _=>none
  | n+1=>fun aA dA fA gA eA cA bA=>sh3 aA dA fA gA eA cA bA f2 (f4 (f3 n))
noncomputable def f1 (cA:List Df) (bA:Int):R:=sh1 cA bA (f3 100000)
noncomputable def f0 (l:List Df) (L:Int) (w:Int):R:=sh0 l L w f1
theorem T2 (aA dA):(hid ct2) (fr2 aA dA)=f2 aA dA:=by
  refine (congrFun (hid_eq _) _).trans <| (P2 aA dA).trans ?_
  show _=sh2 aA dA
  rfl
theorem T4 (KL3:Kont U El) (k3:Y3) (h3:∀ aA dA fA gA eA cA bA,KL3 (fr3 aA dA fA gA eA cA bA)=k3 aA dA fA gA eA cA bA) (aA dA fA gA eA cA bA):(hid (ct4 (hid ct2) KL3)) (fr4 aA dA fA gA eA cA bA)=f4 k3 aA dA fA gA eA cA bA:=by
  refine (congrFun (hid_eq _) _).trans <| (P4 aA dA fA gA eA cA bA (hid ct2) KL3).trans ?_
  show _=sh4 aA dA fA gA eA cA bA k3
  simp only [h3]
theorem T3:∀ (n:Nat),∀ aA dA fA gA eA cA bA,it3 (hid ct2) n (fr3 aA dA fA gA eA cA bA)=f3 n aA dA fA gA eA cA bA:=by
  intro n
  induction n with
  | zero=>intros; rfl
  | succ n ih =>
    intro aA dA fA gA eA cA bA
    refine (P3 aA dA fA gA eA cA bA (hid ct2) (it3 (hid ct2) n)).trans ?_
    show _=sh3 aA dA fA gA eA cA bA f2 (f4 (f3 n))
    simp only [T2,T4 (it3 (hid ct2) n) (f3 n) ih]
theorem H3 (aA dA fA gA eA cA bA):hid (it3 (hid ct2) 100000) (fr3 aA dA fA gA eA cA bA)=f3 100000 aA dA fA gA eA cA bA:=(congrFun (hid_eq _) _).trans (T3 100000 aA dA fA gA eA cA bA)
theorem T1 (cA bA):(hid ct1) (fr1 cA bA)=f1 cA bA:=by
  refine (congrFun (hid_eq _) _).trans <| (P1 cA bA).trans ?_
  show _=sh1 cA bA (f3 100000)
  simp only [H3]
theorem T0 (l L w):exec X bd (.seq none .d (.seq (some nm1) .d (.seq none .d (.seq none .d (.seq (some nm2) (.seq none .d (.block (.loop nm3 (.seq none .d (.seq none .d (.seq (some nm4) .d .d)))))) .d))))) (fr0 l L w) RR (fun _ _=>none) RR=f0 l L w:=by
  refine (P0 l L w).trans ?_
  show _=sh0 l L w f1
  simp only [T1]
theorem run (l L w):runFn X bd (.seq none .d (.seq (some nm1) .d (.seq none .d (.seq none .d (.seq (some nm2) (.seq none .d (.block (.loop nm3 (.seq none .d (.seq none .d (.seq (some nm4) .d .d)))))) .d))))) nmR [6,7,8] [] [(.lst .df l),(.int .i64 L),(.int .i64 w)]=f0 l L w:=T0 l L w
theorem loop (l:List Df) (w:Int) (h:okW l=true) (hw:pos0 w=true):∀ (n i:Nat) (b1 b2:Int),l.length < n+i→i≤l.length→f3 n b1 b2 l (Int.ofNat l.length) (i:Int) l w=some (.tup [.int .i64 (wst l w (b1,b2) (l.drop i)).1,.int .i64 (wst l w (b1,b2) (l.drop i)).2,.int .i64 0],[]):=by
  have hl:=okW_len h
  have hw2:=pos0_iff.1 hw
  intro n
  induction n with
  | zero=>intro i b1 b2 h1 h2; omega
  | succ n ih =>
    intro i b1 b2 h1 h2
    show sh3 b1 b2 l (Int.ofNat l.length) i l w f2 (f4 (f3 n))=_
    unfold sh3
    by_cases hi:i < l.length
    · obtain ⟨hd, ha⟩ := okW_at h hi
      have hb:=at_bound hw2.1 ha
      rw [iltT (by simp; omega),inbT hi,toNat_nat,getD_lt hi,wrapI (x:=l[i].a - w) (by omega) (by omega),show (bif ilt 0 (l[i].a - w) then l[i].a - w else 0)=atZ w l[i] from rfl,h,hw,pos0_iff.2 hb,drop_lt hi]
      simp only [wst,f4,sh4,wrapS i (show i≤1000000 by omega)]
      cases ilt b1 (winZ l (atZ w l[i]) w)
      · exact ih (i+1) _ _ (by omega) (by omega)
      · exact ih (i+1) _ _ (by omega) (by omega)
    · have : i = l.length := by omega
      subst this
      rw [iltF (by simp),List.drop_length]
      rfl
theorem f0_eq (l : List Df) (L w : Int) : f0 l L w = some (.tup [.int .i64 (wor1 L w l), .int .i64 (wor2 L w l), .int .i64 (worE L w l)], []) := by
  unfold f0 sh0 wor1 wor2 worE goW
  cases h:validB L l
  · rfl
  · obtain ⟨h1, h2⟩ := valid_okW h
    have hL:=pos16_iff.1 h2
    have hl:=okW_len h1
    by_cases hw:w < 0
    · rw [iltT hw,ileF (show ¬ 0≤w by omega)]; rfl
    · rw [iltF hw, ileT (show 0 ≤ w by omega)]
      by_cases hw2:L < w
      · rw [iltT hw2,ileF (show ¬ w≤L by omega)]; rfl
      · rw [iltF hw2, ileT (show w ≤ L by omega)]
        have hp:pos0 w=true:=pos0_iff.2 ⟨by omega,by omega⟩
        show sh1 l w (f3 100000)=_
        unfold sh1
        rw [h1,hp]
        exact loop l w h1 hp 100000 0 _ _ (by omega) (by omega)
theorem ok:CtxOk Tryz.prog X:=ctxOk tab (spC valid.spOk (spC touch.spOk spN)) dpN
theorem okM:MOk Tryz.prog X:=fun g sp h=>by cases h
theorem spec (l:List Df) (L:Int) (w:Int):CallSpec Tryz.prog E 18 [(.lst .df l),(.int .i64 L),(.int .i64 w)] (.tup [(.int .i64 (wor1 L w l)),(.int .i64 (wor2 L w l)),(.int .i64 (worE L w l))]) [] :=
  runFn_sound ok okM Tryz.call18 Tryz.func18 (by kernel_rfl) (by kernel_rfl) (by kernel_rfl) (by show 3≤54; decide) (by decide) (by rfl) ((run l L w).trans (f0_eq l L w))
noncomputable def sp:Sp U El:=fun args k=>match args with
  | [.lst .df l,.int .i64 L,.int .i64 w]=>k (.tup [(.int .i64 (wor1 L w l)),(.int .i64 (wor2 L w l)),(.int .i64 (worE L w l))]) []
  | _=>none
theorem spOk:SpOk Tryz.prog E 18 sp where
  det:=fun vs=>by
    unfold sp
    split
    · exact ⟨some (_,_),fun _=>rfl⟩
    · exact ⟨none,fun _=>rfl⟩
  ok:=fun vs k r h=>by
    unfold sp at h
    split at h
    · exact ⟨_,_,spec _ _ _,h⟩
    · cases h
end worst
end Go.Proofs.YtnhmhcobpbilhaaGreatDoor
