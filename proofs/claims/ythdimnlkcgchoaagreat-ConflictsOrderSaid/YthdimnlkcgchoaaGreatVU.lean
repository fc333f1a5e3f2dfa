import Derived.Test.YthdimnlkcgchoaaGreatVR
namespace Go.Proofs.YthdimnlkcgchoaaGreat
set_option linter.all false
set_option maxRecDepth 100000
theorem padM_len (l:List Rule) (n:Net) (s:List UInt8) (k:Nat):(corner (padM l n s) k).length=n.nds.length:=by rw [corner_length]; simp [padM]
theorem large_ok {l:List Rule} {n:Net} (h:largeB l n=false):okN n=true:=by
 simp only [largeB,Bool.or_eq_false_iff] at h
 obtain ⟨h1,h2,_,_,_,h3,_⟩:=h
 have a:=iltN h1; have b:=iltN h2
 simp only [okN,Bool.and_eq_true]
 refine ⟨nleT (by simp at a; omega),nleT (by simp at b; omega),List.all_eq_true.2 fun x hx=>?_⟩
 have:=List.any_eq_false.1 h3 x hx
 simp only [bigLink,Bool.or_eq_true,not_or] at this
 have:=this.1
 exact nleT (by simp [ilt] at this; omega)
end Go.Proofs.YthdimnlkcgchoaaGreat
namespace Go.Proofs.YthdimnlkcgchoaaGreat
set_option linter.all false
set_option maxRecDepth 100000
noncomputable def failsM (m:List ((List UInt8)×Int)) (x:Cnd):Bool:=(ile x.cl (mgetD kq_str m x.cn d_int)) == x.cb
noncomputable def levOkX (x:Node):Bool:=inR 4194304 x.ni&&(inR 4194304 x.ng&&ile x.ni x.ng)
noncomputable def levOkN (n:Net):Bool:=List.all n.nds levOkX
noncomputable def levAt (at_:List UInt32) (i:Nat) (x:Node):Int :=
 bif (x.nk != 3)&&ilt 0 (Int.ofNat at_.length) then x.ni+Int.tmod (Int.ofNat (UInt32.toNat (List.getD at_ (i%at_.length) d_u32))) (x.ng - x.ni+1) else x.ni
noncomputable def levsI (at_:List UInt32):Nat→List Node→List Int
 | _,[]=>[]
 | i,x :: l=>levAt at_ i x :: levsI at_ (i+1) l
noncomputable def levsL (nds:List Node) (at_:List UInt32):List Int:=levsI at_ 0 nds
noncomputable def outV1 (v:List Int):R:=some (.ful 0,[(0,.rows .int v)])
noncomputable def readyB (l:List Rule) (n:Net):Bool:=!(largeB l n)&&(givenZ l n == 0)
namespace levels
noncomputable def bd:Code:=(Tryz.f39.body).getD .skip
noncomputable def X:Ctx U El:=⟨E,tds,zeros,eqs,specOf [],100000,50,dspecOf [],fun _=>none,fun _=>none⟩
noncomputable def nmR:Norm U:=⟨[(4,.int)],[4],[4],[],[],[],[]⟩
noncomputable def RR:Kont U El:=fun st=>normK nmR st (retFin [4] [4])
noncomputable def nm1:Norm U:=⟨[(5,.int)],[5],[5],[],[],[],[]⟩
noncomputable def nm2:Norm U:=⟨[(5,.int)],[1,5,10,11,12],[5],[],[],[],[]⟩
noncomputable def nm3:Norm U:=⟨[(5,.int)],[1,5,10,11,12],[5],[],[],[],[]⟩
noncomputable def nm4:Norm U:=⟨[(5,.int)],[1,5,8,10,11,12],[5],[],[],[],[]⟩
abbrev Y1:=(List Int)→R
abbrev Y2:=(List UInt32)→(List Int)→(List Node)→Int→Int→R
abbrev Y3:=(List UInt32)→(List Int)→(List Node)→Int→Int→R
abbrev Y4:=(List UInt32)→(List Int)→Int→(List Node)→Int→Int→R
noncomputable def fr0 (n:Net) (ats:List UInt32):St U El:=⟨[(0,(.agg [(.lst .node n.nds),(.lst .link n.lks)])),(1,(.lst .u32 ats))],[]⟩
noncomputable def fr1 (bA:List Int):St U El:=⟨[(5,(.ful 5))],[(5,(.rows .int bA))]⟩
noncomputable def fr2 (kA:List UInt32) (bA:List Int) (hA:List Node) (mA:Int) (eA:Int):St U El:=⟨[(1,(.lst .u32 kA)),(5,(.ful 5)),(10,(.lst .node hA)),(11,(.int .i64 mA)),(12,(.int .i64 eA))],[(5,(.rows .int bA))]⟩
noncomputable def fr3 (kA:List UInt32) (bA:List Int) (hA:List Node) (mA:Int) (eA:Int):St U El:=⟨[(1,(.lst .u32 kA)),(5,(.ful 5)),(10,(.lst .node hA)),(11,(.int .i64 mA)),(12,(.int .i64 eA))],[(5,(.rows .int bA))]⟩
noncomputable def fr4 (kA:List UInt32) (bA:List Int) (v8:Int) (hA:List Node) (mA:Int) (eA:Int):St U El:=⟨[(1,(.lst .u32 kA)),(5,(.ful 5)),(8,(.int .i64 v8)),(10,(.lst .node hA)),(11,(.int .i64 mA)),(12,(.int .i64 eA))],[(5,(.rows .int bA))]⟩
noncomputable def sh0 (n:Net) (ats:List UInt32) (k2:Y2):R :=
 k2 ats ([]:List Int) n.nds (Int.ofNat (List.length n.nds)) (0:Int)
noncomputable def sh1 (bA:List Int):R :=
 some ((.ful 0),[(0,.rows .int bA)])
noncomputable def sh2 (kA:List UInt32) (bA:List Int) (hA:List Node) (mA:Int) (eA:Int) (k1:Y1) (k4:Y4):R :=
 condB (ilt eA mA) (chk (inb eA (List.length hA)) (condB ((List.getD hA (Int.toNat eA) d_node).nk != (3:Int)) (condB (ilt (0:Int) (Int.ofNat (List.length kA))) (chk ((Int.ofNat (List.length kA)) != 0) (chk (inb (Int.tmod eA (Int.ofNat (List.length kA))) (List.length kA)) (chk ((IntKind.wrap .i64 ((IntKind.wrap .i64 ((List.getD hA (Int.toNat eA) d_node).ng - (List.getD hA (Int.toNat eA) d_node).ni))+(1:Int))) != 0) (k4 kA bA (IntKind.wrap .i64 ((List.getD hA (Int.toNat eA) d_node).ni+(Int.tmod (IntKind.wrap .i64 (Int.ofNat (UInt32.toNat (List.getD kA (Int.toNat (Int.tmod eA (Int.ofNat (List.length kA)))) d_u32)))) (IntKind.wrap .i64 ((IntKind.wrap .i64 ((List.getD hA (Int.toNat eA) d_node).ng - (List.getD hA (Int.toNat eA) d_node).ni))+(1:Int)))))) hA mA eA)))) (k4 kA bA ((List.getD hA (Int.toNat eA) d_node).ni) hA mA eA)) (k4 kA bA ((List.getD hA (Int.toNat eA) d_node).ni) hA mA eA))) (k1 bA)
noncomputable def sh3 (kA:List UInt32) (bA:List Int) (hA:List Node) (mA:Int) (eA:Int) (k2:Y2):R :=
 k2 kA bA hA mA (IntKind.wrap .i64 (eA+(1:Int)))
noncomputable def sh4 (kA:List UInt32) (bA:List Int) (v8:Int) (hA:List Node) (mA:Int) (eA:Int) (k3:Y3):R :=
 chk (nle ((List.length bA+List.length ([v8]:List Int)) * 8) 140737488355328&&nle (List.length bA+List.length ([v8]:List Int)) 9223372036854775807) (k3 kA (bA++([v8]:List Int)) hA mA eA)
noncomputable def it2 (Kb1:Kont U El) (n:Nat):Kont U El:=iter nm2 (fun st' K'=>exec X (cdp [1,1,0,1,0,0] bd) (.seq none .d (.seq none .d (.seq (some nm3) (.block (.seq none .d (.seq none .d (.seq (some nm4) .d .d)))) .d))) st' K' (Eblk 0 (cutK nm1 Kb1) (fun _ _=>none)) RR) n
noncomputable def ct1:Kont U El:=fun st=>exec X (cdp [1,1,1] bd) .d st RR (fun _ _=>none) RR
noncomputable def ct3 (Kb1 Kb2:Kont U El):Kont U El:=fun st=>exec X (cdp [1,1,0,1,0,0,1,1,1] bd) .d st (cutK nm2 Kb2) (Eblk 0 (cutK nm1 Kb1) (fun _ _=>none)) RR
noncomputable def ct4 (Kb1 Kb3:Kont U El):Kont U El:=fun st=>exec X (cdp [1,1,0,1,0,0,1,1,0,0,1,1,1] bd) .d st (cutK nm3 Kb3) (Eblk 1 (cutK nm3 Kb3) (Eblk 0 (cutK nm1 Kb1) (fun _ _=>none))) RR
theorem P0 (n ats):exec X (cdp [] bd) (.seq none .d (.seq none .d (.seq (some nm1) (.seq none .d (.block (.loop nm2 (.seq none .d (.seq none .d (.seq (some nm3) (.block (.seq none .d (.seq none .d (.seq (some nm4) .d .d)))) .d)))))) .d))) (fr0 n ats) RR (fun _ _=>none) RR=sh0 n ats (fun y0 y1 y2 y3 y4=>(hid (it2 (hid ct1) 100000)) (fr2 y0 y1 y2 y3 y4)):=by kernel_rfl
theorem P1 (bA):ct1 (fr1 bA)=sh1 bA:=by kernel_rfl
theorem P2 (kA bA hA mA eA) (Kb1 Kb2:Kont U El):exec X (cdp [1,1,0,1,0,0] bd) (.seq none .d (.seq none .d (.seq (some nm3) (.block (.seq none .d (.seq none .d (.seq (some nm4) .d .d)))) .d))) (fr2 kA bA hA mA eA) (cutK nm2 Kb2) (Eblk 0 (cutK nm1 Kb1) (fun _ _=>none)) RR=sh2 kA bA hA mA eA (fun y0=>Kb1 (fr1 y0)) (fun y0 y1 y2 y3 y4 y5=>(hid (ct4 Kb1 (hid (ct3 Kb1 Kb2)))) (fr4 y0 y1 y2 y3 y4 y5)):=by kernel_rfl
theorem P3 (kA bA hA mA eA) (Kb1 Kb2:Kont U El):ct3 Kb1 Kb2 (fr3 kA bA hA mA eA)=sh3 kA bA hA mA eA (fun y0 y1 y2 y3 y4=>Kb2 (fr2 y0 y1 y2 y3 y4)):=by kernel_rfl
theorem P4 (kA bA v8 hA mA eA) (Kb1 Kb3:Kont U El):ct4 Kb1 Kb3 (fr4 kA bA v8 hA mA eA)=sh4 kA bA v8 hA mA eA (fun y0 y1 y2 y3 y4=>Kb3 (fr3 y0 y1 y2 y3 y4)):=by kernel_rfl
noncomputable def f1 (bA:List Int):R:=sh1 bA
noncomputable def f3 (k2:Y2) (kA:List UInt32) (bA:List Int) (hA:List Node) (mA:Int) (eA:Int):R:=sh3 kA bA hA mA eA k2
noncomputable def f4 (k2:Y2) (kA:List UInt32) (bA:List Int) (v8:Int) (hA:List Node) (mA:Int) (eA:Int):R:=sh4 kA bA v8 hA mA eA (f3 k2)
noncomputable def f2:Nat→Y2
 | 0=>fun _ _ _ _ _=>none
 | n+1=>fun kA bA hA mA eA=>sh2 kA bA hA mA eA f1 (f4 (f2 n))
noncomputable def f0 (n:Net) (ats:List UInt32):R:=sh0 n ats (f2 100000)
theorem T1 (bA):(hid ct1) (fr1 bA)=f1 bA:=by
 refine (congrFun (hid_eq _) _).trans <| (P1 bA).trans ?_
 show _=sh1 bA
 rfl
theorem T3 (KL2:Kont U El) (k2:Y2) (h2:∀ kA bA hA mA eA,KL2 (fr2 kA bA hA mA eA)=k2 kA bA hA mA eA) (kA bA hA mA eA):(hid (ct3 (hid ct1) KL2)) (fr3 kA bA hA mA eA)=f3 k2 kA bA hA mA eA:=by
 refine (congrFun (hid_eq _) _).trans <| (P3 kA bA hA mA eA (hid ct1) KL2).trans ?_
 show _=sh3 kA bA hA mA eA k2
 simp only [h2]
theorem T4 (KL2:Kont U El) (k2:Y2) (h2:∀ kA bA hA mA eA,KL2 (fr2 kA bA hA mA eA)=k2 kA bA hA mA eA) (kA bA v8 hA mA eA):(hid (ct4 (hid ct1) (hid (ct3 (hid ct1) KL2)))) (fr4 kA bA v8 hA mA eA)=f4 k2 kA bA v8 hA mA eA:=by
 refine (congrFun (hid_eq _) _).trans <| (P4 kA bA v8 hA mA eA (hid ct1) (hid (ct3 (hid ct1) KL2))).trans ?_
 show _=sh4 kA bA v8 hA mA eA (f3 k2)
 simp only [T3 KL2 k2 h2]
theorem T2:∀ (n:Nat),∀ kA bA hA mA eA,it2 (hid ct1) n (fr2 kA bA hA mA eA)=f2 n kA bA hA mA eA:=by
  intro n
  induction n with
  | zero=>intros; rfl
  | succ n ih =>
    intro kA bA hA mA eA
    refine (P2 kA bA hA mA eA (hid ct1) (it2 (hid ct1) n)).trans ?_
    show _=sh2 kA bA hA mA eA f1 (f4 (f2 n))
    simp only [T1,T4 (it2 (hid ct1) n) (f2 n) ih]
theorem H2 (kA bA hA mA eA):hid (it2 (hid ct1) 100000) (fr2 kA bA hA mA eA)=f2 100000 kA bA hA mA eA:=(congrFun (hid_eq _) _).trans (T2 100000 kA bA hA mA eA)
theorem T0 (n ats):exec X bd (.seq none .d (.seq none .d (.seq (some nm1) (.seq none .d (.block (.loop nm2 (.seq none .d (.seq none .d (.seq (some nm3) (.block (.seq none .d (.seq none .d (.seq (some nm4) .d .d)))) .d)))))) .d))) (fr0 n ats) RR (fun _ _=>none) RR=f0 n ats:=by
 refine (P0 n ats).trans ?_
 show _=sh0 n ats (f2 100000)
 simp only [H2]
theorem run (n ats):runFn X bd (.seq none .d (.seq none .d (.seq (some nm1) (.seq none .d (.block (.loop nm2 (.seq none .d (.seq none .d (.seq (some nm3) (.block (.seq none .d (.seq none .d (.seq (some nm4) .d .d)))) .d)))))) .d))) nmR [4] [4] [(.agg [(.lst .node n.nds),(.lst .link n.lks)]),(.lst .u32 ats)]=f0 n ats:=T0 n ats
theorem loop (at_ : List UInt32) (nds : List Node) (hn : nds.length ≤ 90000) (hx : ∀ x ∈ nds, levOkX x = true) : ∀ (n i : Nat) (out : List Int), nds.length < n + i → i ≤ nds.length → out.length = i →
    f2 n at_ out nds (Int.ofNat nds.length) (i:Int)=outV1 (out++levsI at_ i (nds.drop i)):=by
  intro n
  induction n with
  | zero=>intro i out h1 h2; omega
  | succ n ih =>
    intro i out h1 h2 h3
    show sh2 at_ out nds (Int.ofNat nds.length) (i:Int) f1 (f4 (f2 n))=_
    unfold sh2
    by_cases hi:i < nds.length
    · have hk : ∀ v : Int, f4 (f2 n) at_ out v nds (Int.ofNat nds.length) (i : Int) = outV1 (out ++ v :: levsI at_ (i + 1) (nds.drop (i + 1))) := fun v => by
        show sh4 at_ out v nds (Int.ofNat nds.length) (i:Int) (f3 (f2 n))=_
        unfold sh4
        rw [nleT (show _≤140737488355328 by simp; omega),nleT (show _≤9223372036854775807 by simp; omega)]
        show f2 n at_ (out++[v]) nds (Int.ofNat nds.length) (IntKind.wrap .i64 ((i:Int)+1))=_
        rw [wrapS i (by omega),ih (i+1) _ (by omega) hi (by simp; omega)]
        simp only [List.append_assoc,List.singleton_append]
      have ho:=hx _ (List.getElem_mem hi)
      simp only [levOkX,inR,Bool.and_eq_true] at ho
      obtain ⟨⟨o1,o2⟩,⟨o3,o4⟩,o5⟩:=ho
      have o1:=ileI o1; have o2:=ileI o2; have o3:=ileI o3; have o4:=ileI o4; have o5:=ileI o5
      rw [iltT (by simp; omega),inbT hi,toNat_nat,getD_lt hi,drop_lt hi,hk,hk]
      simp only [condT,chkT,levsI,levAt]
      cases h5:nds[i].nk != 3 with
      | false=>rfl
      | true =>
        cases h6:ilt 0 (Int.ofNat at_.length) with
        | false=>rfl
        | true =>
          have hp:0 < at_.length:=by have:=iltI h6; simp at this; omega
          have e1:Int.tmod (i:Int) (Int.ofNat at_.length)=((i%at_.length:Nat):Int):=rfl
          have e2:i%at_.length < at_.length:=Nat.mod_lt _ hp
          have e3:((Int.ofNat at_.length) != 0)=true:=by
            have:Int.ofNat at_.length≠0:=by simp; intro h; rw [h] at hp; simp at hp
            simpa [bne_iff_ne] using this
          have e4:UInt32.toNat (List.getD at_ (i%at_.length) d_u32) < 4294967296:=UInt32.toNat_lt _
          have e5:((nds[i].ng - nds[i].ni+1) != 0)=true:=by
            have:nds[i].ng - nds[i].ni+1≠0:=by omega
            simpa [bne_iff_ne] using this
          have e6:=Int.tmod_nonneg (a:=Int.ofNat (UInt32.toNat (List.getD at_ (i%at_.length) d_u32))) (nds[i].ng - nds[i].ni+1) (by simp)
          have e7:=Int.tmod_lt_of_pos (Int.ofNat (UInt32.toNat (List.getD at_ (i%at_.length) d_u32))) (show 0 < nds[i].ng - nds[i].ni+1 by omega)
          simp only [condT]
          rw [e1,toNat_nat,inbT e2,e3,wrapI (x:=nds[i].ng - nds[i].ni) (by omega) (by omega),wrapI (x:=nds[i].ng - nds[i].ni+1) (by omega) (by omega),e5,wrapI (x:=Int.ofNat (UInt32.toNat (List.getD at_ (i%at_.length) d_u32))) (by simp only [Int.ofNat_eq_natCast]; omega) (by simp only [Int.ofNat_eq_natCast]; omega),wrapI (by omega) (by omega)]
          rfl
    · have : i = nds.length := by omega
      subst this
      rw [iltF (by simp),List.drop_length]
      show outV1 out=outV1 (out++[])
      rw [List.append_nil]
theorem f0_eq (n:Net) (at_:List UInt32) (h:(okN n&&levOkN n)=true):f0 n at_=outV1 (levsL n.nds at_):=by
 simp only [Bool.and_eq_true] at h
 have hn:=nleI (okN_nds h.1)
 exact loop at_ n.nds hn (List.all_eq_true.1 h.2) 100000 0 [] (by omega) (by omega) rfl
theorem ok:CtxOk Tryz.prog X:=ctxOk tab spN dpN
theorem okM:MOk Tryz.prog X:=fun g sp h=>by cases h
theorem spec (n:Net) (ats:List UInt32) (h:((okN n&&levOkN n))=true):CallSpec Tryz.prog E 39 [(.agg [(.lst .node n.nds),(.lst .link n.lks)]),(.lst .u32 ats)] (.ful 0) [(0,.rows .int (levsL (Net.nds n) ats))] :=
 rfs ok okM Tryz.call39 Tryz.func39 ((run n ats).trans (f0_eq n ats h))
noncomputable def sp:Sp U El:=fun args k=>match args with
 | [.agg [.lst .node n_nds,.lst .link n_lks],.lst .u32 ats]=>chk ((okN (⟨n_nds,n_lks⟩:Net)&&levOkN (⟨n_nds,n_lks⟩:Net))) (k (.ful 0) [(0,.rows .int (levsL (Net.nds (⟨n_nds,n_lks⟩:Net)) ats))])
 | _=>none
theorem spOk:SpOk Tryz.prog E 39 sp:=⟨fun vs=>by unfold sp;split;exact det_c _ _ _;exact ⟨none,fun _=>rfl⟩,fun vs k r h=>by unfold sp at h;split at h;(obtain ⟨h1,h2⟩:=chk_some h;exact ⟨_,_,spec ⟨_,_⟩ _ h1,h2⟩);cases h⟩
end levels
namespace ready
noncomputable def bd:Code:=(Tryz.f29.body).getD .skip
noncomputable def X:Ctx U El:=⟨E,tds,zeros,eqs,specOf [(13,large.sp),(53,rgiven.sp)],100000,15,dspecOf [],fun _=>none,fun _=>none⟩
noncomputable def nmR:Norm U:=⟨[],[4],[],[],[],[],[]⟩
noncomputable def RR:Kont U El:=fun st=>normK nmR st (retFin [4] [])
noncomputable def fr0 (l:List Rule) (n:Net):St U El:=⟨[(0,(.lst .rule l)),(1,(.agg [(.lst .node n.nds),(.lst .link n.lks)]))],[]⟩
noncomputable def sh0 (l:List Rule) (n:Net):R :=
 condB (!(largeB l n)) (chk (okN n) (some ((.bool ((givenZ l n) == (0:Int))),[]))) (some ((.bool false),[]))
theorem P0 (l n):exec X (cdp [] bd) .d (fr0 l n) RR (fun _ _=>none) RR=sh0 l n:=by kernel_rfl
noncomputable def f0 (l:List Rule) (n:Net):R:=sh0 l n
theorem T0 (l n):exec X bd .d (fr0 l n) RR (fun _ _=>none) RR=f0 l n:=by
 refine (P0 l n).trans ?_
 show _=sh0 l n
 rfl
theorem run (l n):runFn X bd .d nmR [4] [] [(.lst .rule l),(.agg [(.lst .node n.nds),(.lst .link n.lks)])]=f0 l n:=T0 l n
theorem f0_eq (l:List Rule) (n:Net):f0 l n=outB (readyB l n):=by
 show sh0 l n=_
 unfold sh0 readyB
 cases hl:largeB l n with
 | true=>rfl
 | false=>rw [large_ok hl]; rfl
theorem ok:CtxOk Tryz.prog X:=ctxOk tab (spC large.spOk (spC rgiven.spOk spN)) dpN
theorem okM:MOk Tryz.prog X:=fun g sp h=>by cases h
theorem spec (l:List Rule) (n:Net):CallSpec Tryz.prog E 29 [(.lst .rule l),(.agg [(.lst .node n.nds),(.lst .link n.lks)])] (.bool (readyB l n)) [] :=
 rfs ok okM Tryz.call29 Tryz.func29 ((run l n).trans (f0_eq l n))
noncomputable def sp:Sp U El:=fun args k=>match args with
 | [.lst .rule l,.agg [.lst .node n_nds,.lst .link n_lks]]=>k (.bool (readyB l (⟨n_nds,n_lks⟩:Net))) []
 | _=>none
theorem spOk:SpOk Tryz.prog E 29 sp:=⟨fun vs=>by unfold sp;split;exact ⟨some (_,_),fun _=>rfl⟩;exact ⟨none,fun _=>rfl⟩,fun vs k r h=>by unfold sp at h;split at h;exact ⟨_,_,spec _ ⟨_,_⟩,h⟩;cases h⟩
end ready
end Go.Proofs.YthdimnlkcgchoaaGreat
