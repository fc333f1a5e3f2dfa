/- The law RulesSets. -/
import Derived.Test.YtlkfbblapimhoaaGreatDoorVI
import Derived.Test.YtlkfbblapimhoaaGreatDoorAW
namespace Go.Proofs.YtlkfbblapimhoaaGreatDoor
set_option linter.unusedSectionVars false
set_option linter.unusedSimpArgs false
set_option linter.unusedVariables false
set_option maxRecDepth 100000
theorem runS_len (n : Net) (am : List ((List UInt8) × Int)) : ∀ (l : List Rule) (out : List Int) (st : List (Int × Bool)) (o : List Int), runS n am l out st = some o → o.length = out.length := by
  intro l
  induction l with
  | nil=>intro out st o h; simp only [runS,Option.some.injEq] at h; rw [h]
  | cons r l ih =>
    intro out st o h
    simp only [runS] at h
    cases h1 : !(List.any r.rw (failsM am)) with
    | false=>rw [h1] at h; exact ih _ _ _ h
    | true =>
      rw [h1,cond_true] at h
      cases h2:mgetD kq_int st (linkZ n r.rl) d_bool&&(List.getD out (Int.toNat (linkZ n r.rl)) d_int != r.rs) with
      | true=>rw [h2] at h; cases h
      | false =>
        rw [h2,cond_false] at h
        have:=ih _ _ _ h
        simpa using this
theorem setsL_len (l:List Rule) (n:Net) (v bf:List Int):(setsL l n v bf).length≤bf.length:=by
  unfold setsL
  cases setsE l n v bf == 0 with
  | false=>simp
  | true =>
    rw [cond_true]
    cases h:setsO l n v bf with
    | none=>simp
    | some o=>have:=runS_len _ _ _ _ _ _ h; simp [this]
noncomputable def lvN (n:Net):Bool:=List.all n.lks (fun x=>nle x.lv.length 9223372036854775807)
theorem okN_few {n:Net} (h:lvN n=true) (hf:fewB n=true):okN n=true:=by
  unfold fewB at hf
  simp only [Bool.and_eq_true] at hf
  have h1:=ileI hf.1; have h2:=ileI hf.2
  simp at h1 h2
  unfold okN
  rw [nleT (show n.nds.length≤90000 by omega),nleT (show n.lks.length≤90000 by omega)]
  exact h
namespace lawSets
noncomputable def bd:Code:=(Tryz.f4.body).getD .skip
noncomputable def X:Ctx U El:=⟨E,tds,zeros,eqs,specOf [(7,awake.sp),(8,small.sp),(9,rvalid.sp),(16,few.sp),(17,usettings.sp),(18,rnvalid.sp),(19,rsettings.sp),(20,equalI.sp)],100000,72,dspecOf [],fun _=>none⟩
noncomputable def nmR:Norm U:=⟨[],[8],[],[],[],[],[]⟩
noncomputable def RR:Kont U El:=fun st=>normK nmR st (retFin [8] [])
noncomputable def nm1:Norm U:=⟨[],[0,2,3,5],[5],[],[],[],[(5,0,.node),(5,1,.link)]⟩
noncomputable def nm2:Norm U:=⟨[(9,.int)],[0,2,3,5,9,10],[9,5],[],[],[],[(5,0,.node),(5,1,.link)]⟩
abbrev Y1:=(List Rule)→(List Int)→(List Int)→(List Node)→(List Lnk)→R
abbrev Y2:=(List Rule)→(List Int)→(List Int)→(List Int)→Int→(List Node)→(List Lnk)→R
noncomputable def fr0 (l:List Rule) (n:Net) (v:List Int) (bf:List Int):St U El:=⟨[(0,(.lst .rule l)),(1,(.agg [(.lst .node n.nds),(.lst .link n.lks)])),(2,(.lst .int v)),(3,(.lst .int bf))],[]⟩
noncomputable def fr1 (l0:List Rule) (bA:List Int) (aA:List Int) (cA:List Node) (dA:List Lnk):St U El:=⟨[(0,(.lst .rule l0)),(2,(.lst .int bA)),(3,(.lst .int aA)),(5,(.ptr 5 0))],[(5,(.box 0 [(.lst .node cA),(.lst .link dA)]))]⟩
noncomputable def fr2 (l0:List Rule) (bA:List Int) (aA:List Int) (x9:List Int) (eA:Int) (cA:List Node) (dA:List Lnk):St U El:=⟨[(0,(.lst .rule l0)),(2,(.lst .int bA)),(3,(.lst .int aA)),(5,(.ptr 5 0)),(9,(.ful 9)),(10,(.int .i64 eA))],[(9,(.rows .int x9)),(5,(.box 0 [(.lst .node cA),(.lst .link dA)]))]⟩
noncomputable def sh0 (l:List Rule) (n:Net) (v:List Int) (bf:List Int) (k1:Y1):R :=
  condB (!(true)) (some ((.bool false),[])) (condB (!(smallB l)) (some ((.bool true),[])) (condB (!(fewB n)) (some ((.bool true),[])) (condB (ilt (60:Int) (Int.ofNat (List.length v))) (some ((.bool true),[])) (condB (ilt (60:Int) (Int.ofNat (List.length bf))) (some ((.bool true),[])) (k1 l v bf n.nds n.lks)))))
noncomputable def sh1 (l0:List Rule) (bA:List Int) (aA:List Int) (cA:List Node) (dA:List Lnk) (k2:Y2):R :=
  chk ((okN (⟨cA,dA⟩:Net)&&nle (List.length aA) 90000)) (condB (!(rulesB l0)) (condB ((Int.ofNat (List.length (setsL l0 (⟨cA,dA⟩:Net) bA aA))) == (0:Int)) (some ((.bool ((setsE l0 (⟨cA,dA⟩:Net) bA aA) == (1:Int))),[])) (some ((.bool false),[]))) (chk (okN (⟨cA,dA⟩:Net)) (condB (!(netB (⟨cA,dA⟩:Net))) (condB ((Int.ofNat (List.length (setsL l0 (⟨cA,dA⟩:Net) bA aA))) == (0:Int)) (some ((.bool ((setsE l0 (⟨cA,dA⟩:Net) bA aA) == (1:Int))),[])) (some ((.bool false),[]))) (k2 l0 bA aA (setsL l0 (⟨cA,dA⟩:Net) bA aA) (setsE l0 (⟨cA,dA⟩:Net) bA aA) cA dA))))
noncomputable def sh2 (l0:List Rule) (bA:List Int) (aA:List Int) (x9:List Int) (eA:Int) (cA:List Node) (dA:List Lnk):R :=
  chk ((okN (⟨cA,dA⟩:Net)&&(rulesB l0&&(netB (⟨cA,dA⟩:Net)&&nle (List.length aA) 90000)))) (chk (nle (List.length x9) 90000) (condB (eqI x9 (setsL l0 (⟨cA,dA⟩:Net) bA aA)) (some ((.bool (eA == (setsE l0 (⟨cA,dA⟩:Net) bA aA))),[])) (some ((.bool false),[]))))
noncomputable def ct1:Kont U El:=fun st=>exec X (cdp [1,1,1] bd) (.seq none .d (.seq (some nm2) .d .d)) st RR (fun _ _=>none) RR
noncomputable def ct2:Kont U El:=fun st=>exec X (cdp [1,1,1,1,1] bd) .d st RR (fun _ _=>none) RR
theorem P0 (l n v bf):exec X (cdp [] bd) (.seq none .d (.seq none .d (.seq (some nm1) .d (.seq none .d (.seq (some nm2) .d .d))))) (fr0 l n v bf) RR (fun _ _=>none) RR=sh0 l n v bf (fun y0 y1 y2 y3 y4=>(hid ct1) (fr1 y0 y1 y2 y3 y4)):=by kernel_rfl
theorem P1 (l0 bA aA cA dA):ct1 (fr1 l0 bA aA cA dA)=sh1 l0 bA aA cA dA (fun y0 y1 y2 y3 y4 y5 y6=>(hid ct2) (fr2 y0 y1 y2 y3 y4 y5 y6)):=by kernel_rfl
theorem P2 (l0 bA aA x9 eA cA dA):ct2 (fr2 l0 bA aA x9 eA cA dA)=sh2 l0 bA aA x9 eA cA dA:=by kernel_rfl
noncomputable def f2 (l0:List Rule) (bA:List Int) (aA:List Int) (x9:List Int) (eA:Int) (cA:List Node) (dA:List Lnk):R:=sh2 l0 bA aA x9 eA cA dA
noncomputable def f1 (l0:List Rule) (bA:List Int) (aA:List Int) (cA:List Node) (dA:List Lnk):R:=sh1 l0 bA aA cA dA f2
noncomputable def f0 (l:List Rule) (n:Net) (v:List Int) (bf:List Int):R:=sh0 l n v bf f1
theorem T2 (l0 bA aA x9 eA cA dA):(hid ct2) (fr2 l0 bA aA x9 eA cA dA)=f2 l0 bA aA x9 eA cA dA:=by
  refine (congrFun (hid_eq _) _).trans <| (P2 l0 bA aA x9 eA cA dA).trans ?_
  show _=sh2 l0 bA aA x9 eA cA dA
  rfl
theorem T1 (l0 bA aA cA dA):(hid ct1) (fr1 l0 bA aA cA dA)=f1 l0 bA aA cA dA:=by
  refine (congrFun (hid_eq _) _).trans <| (P1 l0 bA aA cA dA).trans ?_
  show _=sh1 l0 bA aA cA dA f2
  simp only [T2]
theorem T0 (l n v bf):exec X bd (.seq none .d (.seq none .d (.seq (some nm1) .d (.seq none .d (.seq (some nm2) .d .d))))) (fr0 l n v bf) RR (fun _ _=>none) RR=f0 l n v bf:=by
  refine (P0 l n v bf).trans ?_
  show _=sh0 l n v bf f1
  simp only [T1]
theorem run (l n v bf):runFn X bd (.seq none .d (.seq none .d (.seq (some nm1) .d (.seq none .d (.seq (some nm2) .d .d))))) nmR [8] [] [(.lst .rule l),(.agg [(.lst .node n.nds),(.lst .link n.lks)]),(.lst .int v),(.lst .int bf)]=f0 l n v bf:=T0 l n v bf
theorem f0_eq (l : List Rule) (n : Net) (v bf : List Int) (h : lvN n = true) : f0 l n v bf = outB true := by
  show sh0 l n v bf f1=_
  unfold sh0
  cases smallB l with
  | false=>rfl
  | true =>
  cases hf:fewB n with
  | false=>rfl
  | true =>
  replace h:=okN_few h hf
  cases ilt 60 (Int.ofNat v.length) with
  | true=>rfl
  | false =>
  by_cases hb:(60:Int) < Int.ofNat bf.length
  · rw [iltT hb]; rfl
  · rw [iltF hb]
    have hbl:bf.length≤60:=by simp at hb; omega
    show sh1 l v bf n.nds n.lks f2=_
    unfold sh1
    have eN:(⟨n.nds,n.lks⟩:Net)=n:=rfl
    rw [eN,h,nleT (show bf.length≤90000 by omega)]
    have hl:=setsL_len l n v bf
    cases h1:rulesB l with
    | false=>unfold setsL setsE; rw [h1]; rfl
    | true =>
      cases h2:netB n with
      | false=>unfold setsL setsE; rw [h1,h2]; rfl
      | true =>
        show sh2 l v bf (setsL l n v bf) (setsE l n v bf) n.nds n.lks=_
        unfold sh2
        rw [eN,h,h1,h2,nleT (show bf.length≤90000 by omega),nleT (show (setsL l n v bf).length≤90000 by omega),eqI_self,beq_self_eq_true]
        rfl
theorem ok:CtxOk Tryz.prog X:=ctxOk tab (spC awake.spOk (spC small.spOk (spC rvalid.spOk (spC few.spOk (spC usettings.spOk (spC rnvalid.spOk (spC rsettings.spOk (spC equalI.spOk spN)))))))) dpN
theorem okM:MOk Tryz.prog X:=fun g sp h=>by cases h
theorem spec (l:List Rule) (n:Net) (v:List Int) (bf:List Int) (h:(lvN n)=true):CallSpec Tryz.prog E 4 [(.lst .rule l),(.agg [(.lst .node n.nds),(.lst .link n.lks)]),(.lst .int v),(.lst .int bf)] (.bool (true)) [] :=
  runFn_sound ok okM Tryz.call4 Tryz.func4 (by kernel_rfl) (by kernel_rfl) (by kernel_rfl) (by show 4≤72; decide) (by decide) (by rfl) ((run l n v bf).trans (f0_eq l n v bf h))
noncomputable def sp:Sp U El:=fun args k=>match args with
  | [.lst .rule l,.agg [.lst .node n_nds,.lst .link n_lks],.lst .int v,.lst .int bf]=>chk (lvN (⟨n_nds,n_lks⟩:Net)) (k (.bool (true)) [])
  | _=>none
theorem spOk:SpOk Tryz.prog E 4 sp where
  det:=fun vs=>by
    unfold sp
    split
    · exact det_c _ _ _
    · exact ⟨none,fun _=>rfl⟩
  ok:=fun vs k r h=>by
    unfold sp at h
    split at h
    · obtain ⟨h1, h2⟩ := chk_some h
      exact ⟨_,_,spec _ ⟨_,_⟩ _ _ h1,h2⟩
    · cases h
end lawSets
end Go.Proofs.YtlkfbblapimhoaaGreatDoor
