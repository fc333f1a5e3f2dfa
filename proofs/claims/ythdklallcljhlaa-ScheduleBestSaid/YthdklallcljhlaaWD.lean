/- The law ScheduleBest: its own run comes to true. -/
import Derived.Test.YthdklallcljhlaaWC
namespace Go.Proofs.Ythdklallcljhlaa
set_option linter.unusedSectionVars false
set_option linter.unusedSimpArgs false
set_option linter.unusedVariables false
set_option maxRecDepth 100000
theorem NFP_check {l:List Work} {crews:Int} {p:List Slot} (hv:validB l crews=true) (h:NFP l p):checkE l crews p=0:=by
  unfold checkE
  rw [check_P hv h.len h.fn]
theorem NFP_cost {l:List Work} {p:List Slot} (hv:validB l 12=true) (h:NFP l p):costE l p=costZ l p:=by
  unfold costE
  rw [NFP_check hv h]
  rfl
namespace lawBest
noncomputable def bd:Code:=(Try.f6.body).getD .skip
noncomputable def X:Ctx U El:=⟨E,tds,zeros,eqs,specOf [(9,awake.sp),(10,large.sp),(11,check.sp),(13,valid.sp),(15,best.sp),(18,greedy.sp),(19,bound.sp),(20,Costc.sp)],100000,146,dspecOf [],fun _=>none⟩
noncomputable def nmR:Norm U:=⟨[],[6],[],[],[],[],[]⟩
noncomputable def RR:Kont U El:=fun st=>normK nmR st (retFin [6] [])
noncomputable def nm1:Norm U:=⟨[],[0,1,2],[],[],[],[],[]⟩
noncomputable def nm2:Norm U:=⟨[],[0,1,2,8],[],[],[],[],[]⟩
noncomputable def nm3:Norm U:=⟨[],[0,1,2,8],[],[],[],[],[]⟩
abbrev Y1:=(List Work)→Int→(List Slot)→R
abbrev Y2:=(List Work)→Int→(List Slot)→Int→R
abbrev Y3:=(List Work)→Int→(List Slot)→Int→R
noncomputable def fr0 (l:List Work) (crews:Int) (p:List Slot):St U El:=⟨[(0,(.lst .work l)),(1,(.int .i64 crews)),(2,(.lst .slot p))],[]⟩
noncomputable def fr1 (l0:List Work) (aA:Int) (p2:List Slot):St U El:=⟨[(0,(.lst .work l0)),(1,(.int .i64 aA)),(2,(.lst .slot p2))],[]⟩
noncomputable def fr2 (l0:List Work) (aA:Int) (p2:List Slot) (c8:Int):St U El:=⟨[(0,(.lst .work l0)),(1,(.int .i64 aA)),(2,(.lst .slot p2)),(8,(.int .i64 c8))],[]⟩
noncomputable def fr3 (l0:List Work) (aA:Int) (p2:List Slot) (c8:Int):St U El:=⟨[(0,(.lst .work l0)),(1,(.int .i64 aA)),(2,(.lst .slot p2)),(8,(.int .i64 c8))],[]⟩
noncomputable def sh0 (l:List Work) (crews:Int) (p:List Slot) (k1:Y1):R :=
  condB (!(true)) (some ((.bool false),[])) (condB (largeB l) (some ((.bool true),[])) (condB (ilt (12:Int) (Int.ofNat (List.length l))) (some ((.bool true),[])) (condB (ilt (20:Int) (Int.ofNat (List.length p))) (some ((.bool true),[])) (k1 l crews p))))
noncomputable def sh1 (l0:List Work) (aA:Int) (p2:List Slot) (k2:Y2):R :=
  chk (okV l0) (condB ((bestE l0 aA (400:Int)) != (0:Int)) (condB ((Int.ofNat (List.length (bestL l0 aA (400:Int)))) == (0:Int)) (condB ((bestN l0 aA (400:Int)) == (0:Int)) (condB ((bestE l0 aA (400:Int)) == (6:Int)) (some ((.bool true),[])) (chk (okV l0) (some ((.bool (!(validB l0 aA))),[])))) (some ((.bool false),[]))) (some ((.bool false),[]))) (chk (okV l0) (chk (okV l0) (chk (okV l0) (condB ((checkE l0 aA (bestL l0 aA (400:Int))) != (0:Int)) (some ((.bool false),[])) (condB ((checkE l0 12 (bestL l0 aA (400:Int))) != (0:Int)) (some ((.bool false),[])) (condB ((costE l0 (bestL l0 aA (400:Int))) != (bestN l0 aA (400:Int))) (some ((.bool false),[])) (condB ((boundE l0 aA) != (0:Int)) (some ((.bool false),[])) (condB (ilt (bestN l0 aA (400:Int)) (boundZ l0 aA)) (some ((.bool false),[])) (k2 l0 aA p2 (bestN l0 aA (400:Int))))))))))))
noncomputable def sh2 (l0:List Work) (aA:Int) (p2:List Slot) (c8:Int) (k3:Y3):R :=
  chk (okV l0) (chk (okV l0) (condB ((greedyE l0 aA) != (0:Int)) (some ((.bool false),[])) (condB ((checkE l0 12 (greedyL l0 aA)) != (0:Int)) (some ((.bool false),[])) (condB (ilt (costE l0 (greedyL l0 aA)) c8) (some ((.bool false),[])) (k3 l0 aA p2 c8)))))
noncomputable def sh3 (l0:List Work) (aA:Int) (p2:List Slot) (c8:Int):R :=
  chk (okV l0) (condB ((checkE l0 aA p2) != (0:Int)) (some ((.bool true),[])) (chk (okV l0) (condB ((checkE l0 12 p2) == (0:Int)) (some ((.bool (ile c8 (costE l0 p2))),[])) (some ((.bool false),[])))))
noncomputable def ct1:Kont U El:=fun st=>exec X (cdp [1,1,1] bd) (.seq none .d (.seq none .d (.seq none .d (.seq none .d (.seq none .d (.seq (some nm2) .d (.seq none .d (.seq none .d (.seq (some nm3) .d .d))))))))) st RR (fun _ _=>none) RR
noncomputable def ct2:Kont U El:=fun st=>exec X (cdp [1,1,1,1,1,1,1,1,1] bd) (.seq none .d (.seq none .d (.seq (some nm3) .d .d))) st RR (fun _ _=>none) RR
noncomputable def ct3:Kont U El:=fun st=>exec X (cdp [1,1,1,1,1,1,1,1,1,1,1,1] bd) .d st RR (fun _ _=>none) RR
theorem P0 (l crews p):exec X (cdp [] bd) (.seq none .d (.seq none .d (.seq (some nm1) .d (.seq none .d (.seq none .d (.seq none .d (.seq none .d (.seq none .d (.seq (some nm2) .d (.seq none .d (.seq none .d (.seq (some nm3) .d .d)))))))))))) (fr0 l crews p) RR (fun _ _=>none) RR=sh0 l crews p (fun y0 y1 y2=>(hid ct1) (fr1 y0 y1 y2)):=by kernel_rfl
theorem P1 (l0 aA p2):ct1 (fr1 l0 aA p2)=sh1 l0 aA p2 (fun y0 y1 y2 y3=>(hid ct2) (fr2 y0 y1 y2 y3)):=by kernel_rfl
theorem P2 (l0 aA p2 c8):ct2 (fr2 l0 aA p2 c8)=sh2 l0 aA p2 c8 (fun y0 y1 y2 y3=>(hid ct3) (fr3 y0 y1 y2 y3)):=by kernel_rfl
theorem P3 (l0 aA p2 c8):ct3 (fr3 l0 aA p2 c8)=sh3 l0 aA p2 c8:=by kernel_rfl
noncomputable def f3 (l0:List Work) (aA:Int) (p2:List Slot) (c8:Int):R:=sh3 l0 aA p2 c8
noncomputable def f2 (l0:List Work) (aA:Int) (p2:List Slot) (c8:Int):R:=sh2 l0 aA p2 c8 f3
noncomputable def f1 (l0:List Work) (aA:Int) (p2:List Slot):R:=sh1 l0 aA p2 f2
noncomputable def f0 (l:List Work) (crews:Int) (p:List Slot):R:=sh0 l crews p f1
theorem T3 (l0 aA p2 c8):(hid ct3) (fr3 l0 aA p2 c8)=f3 l0 aA p2 c8:=by
  refine (congrFun (hid_eq _) _).trans <| (P3 l0 aA p2 c8).trans ?_
  show _=sh3 l0 aA p2 c8
  rfl
theorem T2 (l0 aA p2 c8):(hid ct2) (fr2 l0 aA p2 c8)=f2 l0 aA p2 c8:=by
  refine (congrFun (hid_eq _) _).trans <| (P2 l0 aA p2 c8).trans ?_
  show _=sh2 l0 aA p2 c8 f3
  simp only [T3]
theorem T1 (l0 aA p2):(hid ct1) (fr1 l0 aA p2)=f1 l0 aA p2:=by
  refine (congrFun (hid_eq _) _).trans <| (P1 l0 aA p2).trans ?_
  show _=sh1 l0 aA p2 f2
  simp only [T2]
theorem T0 (l crews p):exec X bd (.seq none .d (.seq none .d (.seq (some nm1) .d (.seq none .d (.seq none .d (.seq none .d (.seq none .d (.seq none .d (.seq (some nm2) .d (.seq none .d (.seq none .d (.seq (some nm3) .d .d)))))))))))) (fr0 l crews p) RR (fun _ _=>none) RR=f0 l crews p:=by
  refine (P0 l crews p).trans ?_
  show _=sh0 l crews p f1
  simp only [T1]
theorem run (l crews p):runFn X bd (.seq none .d (.seq none .d (.seq (some nm1) .d (.seq none .d (.seq none .d (.seq none .d (.seq none .d (.seq none .d (.seq (some nm2) .d (.seq none .d (.seq none .d (.seq (some nm3) .d .d)))))))))))) nmR [6] [] [(.lst .work l),(.int .i64 crews),(.lst .slot p)]=f0 l crews p:=T0 l crews p
theorem f0_eq (l : List Work) (crews : Int) (p : List Slot) : f0 l crews p = outB true := by
  show sh0 l crews p f1=_
  unfold sh0
  cases hb:largeB l with
  | true=>rfl
  | false =>
    cases ilt (12:Int) (Int.ofNat l.length) with
    | true=>rfl
    | false =>
      cases ilt (20:Int) (Int.ofNat p.length) with
      | true=>rfl
      | false =>
        have hv:=large_okV hb
        show sh1 l crews p f2=_
        unfold sh1
        rw [hv,chkT]
        cases hval:validB l crews with
        | false =>
          have e:bestG l crews 400=([],0,1):=by unfold bestG; rw [hval]; rfl
          have e1:bestE l crews 400=1:=by unfold bestE; rw [e]
          have e2:bestL l crews 400=[]:=by unfold bestL; rw [e]
          have e3:bestN l crews 400=0:=by unfold bestN; rw [e]
          rw [e1,e2,e3]
          rfl
        | true =>
          cases hr:(bestR l 400).1 with
          | false =>
            have e:bestG l crews 400=([],0,6):=by unfold bestG; rw [hval,hr]; rfl
            have e1:bestE l crews 400=6:=by unfold bestE; rw [e]
            have e2:bestL l crews 400=[]:=by unfold bestL; rw [e]
            have e3:bestN l crews 400=0:=by unfold bestN; rw [e]
            rw [e1,e2,e3]
            rfl
          | true =>
            have hval2:=valid_up hval
            have hLV:LV l:=⟨hv,hval2⟩
            obtain ⟨hf,⟨hN,hcost⟩,hmin⟩:=best_spec hLV hr
            have e:bestG l crews 400=((bestR l 400).2.best,(bestR l 400).2.least,0):=by unfold bestG; rw [hval,hr]; rfl
            have e1:bestE l crews 400=0:=by unfold bestE; rw [e]
            have e2:bestL l crews 400=(bestR l 400).2.best:=by unfold bestL; rw [e]
            have e3:bestN l crews 400=(bestR l 400).2.least:=by unfold bestN; rw [e]
            generalize (bestR l 400).2.best=q at hN hcost e2
            generalize (bestR l 400).2.least=v at hcost hmin e3
            have hV:=valid_of hval
            have hl:=hV.len
            obtain ⟨hk,hdep⟩:=valid_okE hv hval
            have hE:=okE_of hk
            have hnf:∀ i,i < l.length→NoF l q i:=fun i hi=>fault_no (hN.fn i hi)
            have hbd:=(bnd_le hE hl hN.len (goodW_due hV.good) hnf (fun i hi=>ends_after hE hnf l.length i hi (hdep i hi)) l.length 0 0 0 (by omega) (by omega) (by omega) (by omega)).1
            have e4:boundZ l crews=bndG l (endsL l) l.length 0 0:=by unfold boundZ; rw [hval]; rfl
            have e5:boundE l crews=0:=by unfold boundE; rw [hval]; rfl
            have e6:costG l q l.length 0 0=v:=by
              have:costZ l q=costG l q q.length 0 0:=rfl
              rw [hN.len] at this
              rw [← this,hcost]
            have hgr:=greedy_GP hv hval
            have hgN:NFP l (greedyL l crews):=⟨hgr.len,hgr.fn⟩
            have e7:greedyE l crews=0:=by unfold greedyE; rw [hval]; rfl
            have hle:=hmin _ hgN
            rw [e1,e2,e3,NFP_check hval hN,NFP_check hval2 hN,NFP_cost hval2 hN,hcost,e5,e4,iltF (show ¬ v < bndG l (endsL l) l.length 0 0 by omega),show (v != v)=false by simp]
            show sh2 l crews p v f3=_
            unfold sh2
            rw [hv,chkT,chkT,e7,NFP_check hval2 hgN,NFP_cost hval2 hgN,iltF (show ¬ costZ l (greedyL l crews) < v by omega)]
            show sh3 l crews p v=_
            unfold sh3
            rw [hv,chkT]
            cases hcp:(checkE l crews p != 0) with
            | true=>rfl
            | false =>
              have h0:checkE l crews p=0:=by simpa only [bne_eq_false_iff_eq] using hcp
              obtain ⟨_,h2,h3⟩:=check_no h0
              have hpN:NFP l p:=⟨h2,h3⟩
              rw [NFP_check hval2 hpN,NFP_cost hval2 hpN,ileT (hmin p hpN)]
              rfl
theorem ok:CtxOk Try.prog X:=ctxOk tab (spC awake.spOk (spC large.spOk (spC check.spOk (spC valid.spOk (spC best.spOk (spC greedy.spOk (spC bound.spOk (spC Costc.spOk spN)))))))) dpN
theorem okM:MOk Try.prog X:=fun g sp h=>by cases h
theorem spec (l:List Work) (crews:Int) (p:List Slot):CallSpec Try.prog E 6 [(.lst .work l),(.int .i64 crews),(.lst .slot p)] (.bool (true)) [] :=
  runFn_sound ok okM Try.call6 Try.func6 (by kernel_rfl) (by kernel_rfl) (by kernel_rfl) (by show 3≤146; decide) (by decide) (by rfl) ((run l crews p).trans (f0_eq l crews p))
noncomputable def sp:Sp U El:=fun args k=>match args with
  | [.lst .work l,.int .i64 crews,.lst .slot p]=>k (.bool (true)) []
  | _=>none
theorem spOk:SpOk Try.prog E 6 sp where
  det:=fun vs=>by
    unfold sp
    split
    · exact ⟨some (_,_),fun _=>rfl⟩
    · exact ⟨none,fun _=>rfl⟩
  ok:=fun vs k r h=>by
    unfold sp at h
    split at h
    · exact ⟨_,_,spec _ _ _,h⟩
    · cases h
end lawBest
end Go.Proofs.Ythdklallcljhlaa
