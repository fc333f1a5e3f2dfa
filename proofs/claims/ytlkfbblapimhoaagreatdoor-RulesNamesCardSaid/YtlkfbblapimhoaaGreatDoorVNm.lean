/- The law RulesNames: its own run is true. -/
import Derived.Test.YtlkfbblapimhoaaGreatDoorUX
import Derived.Test.YtlkfbblapimhoaaGreatDoorVR
import Derived.Test.YtlkfbblapimhoaaGreatDoorVN
namespace Go.Proofs.YtlkfbblapimhoaaGreatDoor
set_option linter.unusedSectionVars false
set_option linter.unusedSimpArgs false
set_option linter.unusedVariables false
set_option maxRecDepth 100000
theorem ren_eq {l:List Rule} (h:rulesB l=true) (fr to:List UInt8):renE l fr to=rrenE l fr to:=by
  unfold renE rrenE
  rw [h,Bool.and_comm]
  rfl
theorem renL_eq {l:List Rule} (h:rulesB l=true) (fr to:List UInt8):renL l fr to=rrenL l fr to:=by
  unfold renL rrenL
  rw [ren_eq h]
theorem okR_ren {l:List Rule} (h:okR l=true) (fr to:List UInt8):okR (rrenL l fr to)=true:=by
  unfold rrenL
  cases rrenE l fr to == 0 with
  | false=>rfl
  | true =>
    simp only [cond_true]
    unfold okR at h ⊢
    simp only [Bool.and_eq_true,List.length_map,List.all_map] at h ⊢
    refine ⟨h.1,List.all_eq_true.2 fun r hr => ?_⟩
    have:=List.all_eq_true.1 h.2 r hr
    simp only [Function.comp]
    unfold renR
    simpa using this
namespace lawNames
noncomputable def bd:Code:=(Tryz.f5.body).getD .skip
noncomputable def X:Ctx U El:=⟨E,tds,zeros,eqs,specOf [(7,awake.sp),(8,small.sp),(9,rvalid.sp),(14,rsame.sp),(21,slight.sp),(22,ulinks.sp),(24,usimpler.sp),(25,rvalid1.sp),(26,rsameN.sp),(27,rsimpler.sp),(28,rrename.sp),(29,equalS.sp),(30,rlinks.sp)],100000,134,dspecOf [],mspecOf [(23,(mcSp rename.sp))]⟩
noncomputable def nmR:Norm U:=⟨[],[8],[],[],[],[],[]⟩
noncomputable def RR:Kont U El:=fun st=>normK nmR st (retFin [8] [])
noncomputable def nm1:Norm U:=⟨[],[0,1,2,7],[7],[],[],[],[(7,1,.cnd)]⟩
noncomputable def nm2:Norm U:=⟨[(9,.str),(11,.rule)],[0,1,2,9,10,11,12],[9,11],[],[],[],[]⟩
abbrev Y1:=(List Rule)→(List UInt8)→(List UInt8)→(List UInt8)→(List Cnd)→(List UInt8)→Int→R
abbrev Y2:=(List Rule)→(List UInt8)→(List UInt8)→(List (List UInt8))→Int→(List Rule)→Int→R
noncomputable def fr0 (l:List Rule) (fr:List UInt8) (to:List UInt8) (r:Rule):St U El:=⟨[(0,(.lst .rule l)),(1,(.str fr)),(2,(.str to)),(3,(.agg [(.str r.rn),(.lst .cnd r.rw),(.str r.rl),(.int .i64 r.rs)]))],[]⟩
noncomputable def fr1 (l0:List Rule) (aA:List UInt8) (fA:List UInt8) (bA:List UInt8) (cA:List Cnd) (dA:List UInt8) (eA:Int):St U El:=⟨[(0,(.lst .rule l0)),(1,(.str aA)),(2,(.str fA)),(7,(.ptr 7 0))],[(7,(.box 0 [(.str bA),(.lst .cnd cA),(.str dA),(.int .i64 eA)]))]⟩
noncomputable def fr2 (l0:List Rule) (aA:List UInt8) (fA:List UInt8) (x9:List (List UInt8)) (hA:Int) (gA:List Rule) (iA:Int):St U El:=⟨[(0,(.lst .rule l0)),(1,(.str aA)),(2,(.str fA)),(9,(.ful 9)),(10,(.int .i64 hA)),(11,(.ful 11)),(12,(.int .i64 iA))],[(9,(.rows .str x9)),(11,(.rows .rule gA))]⟩
noncomputable def sh0 (l:List Rule) (fr:List UInt8) (to:List UInt8) (r:Rule) (k1:Y1):R :=
  condB (!(true)) (some ((.bool false),[])) (condB (!(smallB l)) (some ((.bool true),[])) (condB (!(slightB r)) (some ((.bool true),[])) (condB (ilt (50:Int) (Int.ofNat (List.length fr))) (some ((.bool true),[])) (condB (ilt (50:Int) (Int.ofNat (List.length to))) (some ((.bool true),[])) (k1 l fr to r.rn r.rw r.rl r.rs)))))
noncomputable def sh1 (l0:List Rule) (aA:List UInt8) (fA:List UInt8) (bA:List UInt8) (cA:List Cnd) (dA:List UInt8) (eA:Int) (k2:Y2):R :=
  condB (!(ruleB (⟨bA,cA,dA,eA⟩:Rule))) (chk (nle (List.length (Rule.rw (simR (⟨bA,cA,dA,eA⟩:Rule)))) 90000) (condB (!(sameR (simR (⟨bA,cA,dA,eA⟩:Rule)) (⟨([]:List UInt8),([]:List Cnd),([]:List UInt8),(0:Int)⟩:Rule))) (some ((.bool false),[])) (condB ((simE (⟨bA,cA,dA,eA⟩:Rule)) != (1:Int)) (some ((.bool false),[])) (k2 l0 aA fA (linksL l0) ((bif rulesB l0 then 0 else 1)) (renL l0 aA fA) (renE l0 aA fA))))) (chk (ruleB (⟨bA,cA,dA,eA⟩:Rule)) (condB (!(rsimB (⟨bA,cA,dA,eA⟩:Rule))) (chk (nle (List.length (Rule.rw (simR (⟨bA,cA,dA,eA⟩:Rule)))) 90000) (condB (!(sameR (simR (⟨bA,cA,dA,eA⟩:Rule)) (⟨([]:List UInt8),([]:List Cnd),([]:List UInt8),(0:Int)⟩:Rule))) (some ((.bool false),[])) (condB ((simE (⟨bA,cA,dA,eA⟩:Rule)) != (12:Int)) (some ((.bool false),[])) (k2 l0 aA fA (linksL l0) ((bif rulesB l0 then 0 else 1)) (renL l0 aA fA) (renE l0 aA fA))))) (chk (nle (List.length (Rule.rw (simR (⟨bA,cA,dA,eA⟩:Rule)))) 90000) (condB (!(sameR (simR (⟨bA,cA,dA,eA⟩:Rule)) (rsimR (⟨bA,cA,dA,eA⟩:Rule)))) (some ((.bool false),[])) (condB ((simE (⟨bA,cA,dA,eA⟩:Rule)) != (0:Int)) (some ((.bool false),[])) (k2 l0 aA fA (linksL l0) ((bif rulesB l0 then 0 else 1)) (renL l0 aA fA) (renE l0 aA fA)))))))
noncomputable def sh2 (l0:List Rule) (aA:List UInt8) (fA:List UInt8) (x9:List (List UInt8)) (hA:Int) (gA:List Rule) (iA:Int):R :=
  condB (!(rulesB l0)) (condB ((Int.ofNat (List.length x9)) == (0:Int)) (condB (hA == (1:Int)) (condB ((Int.ofNat (List.length gA)) == (0:Int)) (some ((.bool (iA == (1:Int))),[])) (some ((.bool false),[]))) (some ((.bool false),[]))) (some ((.bool false),[]))) (chk (okR l0) (chk (nle (List.length l0) 4000) (chk (nle (List.length x9) 90000) (condB (eqSl x9 (rlinksL l0)) (condB (hA == (0:Int)) (chk (okR gA) (condB (sameL gA (rrenL l0 aA fA)) (some ((.bool (iA == (rrenE l0 aA fA))),[])) (some ((.bool false),[])))) (some ((.bool false),[]))) (some ((.bool false),[]))))))
noncomputable def ct1:Kont U El:=fun st=>exec X (cdp [1,1,1] bd) (.seq none .d (.seq none .d (.seq none .d (.seq (some nm2) .d .d)))) st RR (fun _ _=>none) RR
noncomputable def ct2:Kont U El:=fun st=>exec X (cdp [1,1,1,1,1,1,1] bd) .d st RR (fun _ _=>none) RR
theorem P0 (l fr to r):exec X (cdp [] bd) (.seq none .d (.seq none .d (.seq (some nm1) .d (.seq none .d (.seq none .d (.seq none .d (.seq (some nm2) .d .d))))))) (fr0 l fr to r) RR (fun _ _=>none) RR=sh0 l fr to r (fun y0 y1 y2 y3 y4 y5 y6=>(hid ct1) (fr1 y0 y1 y2 y3 y4 y5 y6)):=by kernel_rfl
theorem P1 (l0 aA fA bA cA dA eA):ct1 (fr1 l0 aA fA bA cA dA eA)=sh1 l0 aA fA bA cA dA eA (fun y0 y1 y2 y3 y4 y5 y6=>(hid ct2) (fr2 y0 y1 y2 y3 y4 y5 y6)):=by kernel_rfl
theorem P2 (l0 aA fA x9 hA gA iA):ct2 (fr2 l0 aA fA x9 hA gA iA)=sh2 l0 aA fA x9 hA gA iA:=by kernel_rfl
noncomputable def f2 (l0:List Rule) (aA:List UInt8) (fA:List UInt8) (x9:List (List UInt8)) (hA:Int) (gA:List Rule) (iA:Int):R:=sh2 l0 aA fA x9 hA gA iA
noncomputable def f1 (l0:List Rule) (aA:List UInt8) (fA:List UInt8) (bA:List UInt8) (cA:List Cnd) (dA:List UInt8) (eA:Int):R:=sh1 l0 aA fA bA cA dA eA f2
noncomputable def f0 (l:List Rule) (fr:List UInt8) (to:List UInt8) (r:Rule):R:=sh0 l fr to r f1
theorem T2 (l0 aA fA x9 hA gA iA):(hid ct2) (fr2 l0 aA fA x9 hA gA iA)=f2 l0 aA fA x9 hA gA iA:=by
  refine (congrFun (hid_eq _) _).trans <| (P2 l0 aA fA x9 hA gA iA).trans ?_
  show _=sh2 l0 aA fA x9 hA gA iA
  rfl
theorem T1 (l0 aA fA bA cA dA eA):(hid ct1) (fr1 l0 aA fA bA cA dA eA)=f1 l0 aA fA bA cA dA eA:=by
  refine (congrFun (hid_eq _) _).trans <| (P1 l0 aA fA bA cA dA eA).trans ?_
  show _=sh1 l0 aA fA bA cA dA eA f2
  simp only [T2]
theorem T0 (l fr to r):exec X bd (.seq none .d (.seq none .d (.seq (some nm1) .d (.seq none .d (.seq none .d (.seq none .d (.seq (some nm2) .d .d))))))) (fr0 l fr to r) RR (fun _ _=>none) RR=f0 l fr to r:=by
  refine (P0 l fr to r).trans ?_
  show _=sh0 l fr to r f1
  simp only [T1]
theorem run (l fr to r):runFn X bd (.seq none .d (.seq none .d (.seq (some nm1) .d (.seq none .d (.seq none .d (.seq none .d (.seq (some nm2) .d .d))))))) nmR [8] [] [(.lst .rule l),(.str fr),(.str to),(.agg [(.str r.rn),(.lst .cnd r.rw),(.str r.rl),(.int .i64 r.rs)])]=f0 l fr to r:=T0 l fr to r
theorem part2 (l:List Rule) (fr to:List UInt8):f2 l fr to (linksL l) (bif rulesB l then 0 else 1) (renL l fr to) (renE l fr to)=outB true:=by
  show sh2 l fr to (linksL l) (bif rulesB l then 0 else 1) (renL l fr to) (renE l fr to)=_
  unfold sh2
  cases h:rulesB l with
  | false =>
    have e1:linksL l=[]:=by unfold linksL; rw [h]; rfl
    have e2:renE l fr to=1:=by unfold renE; rw [h]; rfl
    have e3:renL l fr to=[]:=by unfold renL; rw [e2]; rfl
    rw [e1,e2,e3]
    rfl
  | true =>
    obtain ⟨g1,g2⟩:=rulesB_len h
    have e1:linksL l=rlinksL l:=by
      unfold linksL
      rw [h,cond_true,links_eq]
    have hlen:(rlinksL l).length≤90000:=by
      rw [← links_eq]
      have:=len_compactS (sortS (l.map Rule.rl))
      rw [sortS_length,List.length_map] at this
      omega
    have hok:=rulesB_okR h
    rw [e1,ren_eq h,renL_eq h,hok,nleT (show l.length≤4000 by omega),nleT hlen,okR_ren hok,sameL_self]
    have e4:eqLen (fun x y=>x == y) (rlinksL l) (rlinksL l)=true:=eqLen_self (by simp) _
    simp only [Bool.not_true,condF,chkT]
    first
      | (rw [eqSl_self]; simp only [condT,cond_true,beq_self_eq_true]; rfl)
      | (rw [e4]; simp only [condT,cond_true,beq_self_eq_true]; rfl)
theorem f0_eq (l : List Rule) (fr to : List UInt8) (r : Rule) : f0 l fr to r = outB true := by
  show sh0 l fr to r f1=_
  unfold sh0
  cases hs:smallB l with
  | false=>rfl
  | true =>
    cases hr:slightB r with
    | false=>rfl
    | true =>
      cases ilt (50:Int) (Int.ofNat fr.length) with
      | true=>rfl
      | false =>
        cases ilt (50:Int) (Int.ofNat to.length) with
        | true=>rfl
        | false =>
          show sh1 l fr to r.rn r.rw r.rl r.rs f2=_
          have hw:(simR r).rw.length≤90000:=by
            unfold simR
            cases h:ruleB r with
            | false=>exact Nat.zero_le _
            | true =>
              have h1:=(ruleB_len h).1
              have h2:=sim_len r.rw
              cases simF r.rw with
              | true=>exact Nat.zero_le _
              | false=>show (simC r.rw).length≤_; omega
          have er:(⟨r.rn,r.rw,r.rl,r.rs⟩:Rule)=r:=rfl
          unfold sh1
          rw [part2,er,nleT hw]
          cases h1:ruleB r with
          | false =>
            have e1:simE r=1:=by unfold simE; rw [h1]; rfl
            have e2:simR r=⟨[],[],[],0⟩:=by unfold simR; rw [h1]; rfl
            rw [e1,e2]
            rfl
          | true =>
            cases hf:simF r.rw with
            | true =>
              have e1:simE r=12:=by unfold simE; rw [h1,hf]; rfl
              have e2:simR r=⟨[],[],[],0⟩:=by unfold simR; rw [h1,hf]; rfl
              have e3:rsimB r=false:=by unfold rsimB; rw [hf]; rfl
              rw [e1,e2,e3]
              rfl
            | false =>
              have e1:simE r=0:=by unfold simE; rw [h1,hf]; rfl
              have e2:simR r=rsimR r:=by unfold simR rsimR; rw [h1,hf]; rfl
              have e3:rsimB r=true:=by unfold rsimB; rw [hf]; rfl
              rw [e1,e2,e3,sameR_self]
              rfl
theorem ok:CtxOk Tryz.prog X:=ctxOk tab (spC awake.spOk (spC small.spOk (spC rvalid.spOk (spC rsame.spOk (spC slight.spOk (spC ulinks.spOk (spC usimpler.spOk (spC rvalid1.spOk (spC rsameN.spOk (spC rsimpler.spOk (spC rrename.spOk (spC equalS.spOk (spC rlinks.spOk spN))))))))))))) dpN
theorem okM:MOk Tryz.prog X:=mspecOf_ok _ (mpC (mcSp_ok ok rename.spOk) mpN)
theorem spec (l:List Rule) (fr:List UInt8) (to:List UInt8) (r:Rule):CallSpec Tryz.prog E 5 [(.lst .rule l),(.str fr),(.str to),(.agg [(.str r.rn),(.lst .cnd r.rw),(.str r.rl),(.int .i64 r.rs)])] (.bool (true)) [] :=
  runFn_sound ok okM Tryz.call5 Tryz.func5 (by kernel_rfl) (by kernel_rfl) (by kernel_rfl) (by show 4≤134; decide) (by decide) (by rfl) ((run l fr to r).trans (f0_eq l fr to r))
noncomputable def sp:Sp U El:=fun args k=>match args with
  | [.lst .rule l,.str fr,.str to,.agg [.str r_rn,.lst .cnd r_rw,.str r_rl,.int .i64 r_rs]]=>k (.bool (true)) []
  | _=>none
theorem spOk:SpOk Tryz.prog E 5 sp where
  det:=fun vs=>by
    unfold sp
    split
    · exact ⟨some (_,_),fun _=>rfl⟩
    · exact ⟨none,fun _=>rfl⟩
  ok:=fun vs k r h=>by
    unfold sp at h
    split at h
    · exact ⟨_,_,spec _ _ _ ⟨_,_,_,_⟩,h⟩
    · cases h
end lawNames
end Go.Proofs.YtlkfbblapimhoaaGreatDoor
