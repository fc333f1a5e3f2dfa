/- The law TelemetryForms. -/
import Derived.Test.YtkeplmpcijigaaaGreatDoorTF
import Derived.Test.YtkeplmpcijigaaaGreatDoorVF
import Derived.Test.YtkeplmpcijigaaaGreatDoorVS
namespace Go.Proofs.YtkeplmpcijigaaaGreatDoor
set_option linter.unusedSectionVars false
set_option linter.unusedSimpArgs false
set_option linter.unusedVariables false
set_option maxRecDepth 100000
noncomputable def rsortM (l:List Msg):List Msg:=l.foldl (fun out m=>withL m out) []
theorem with_len (m:Msg) (l:List Msg):(withL m l).length=l.length+1:=(withL_perm m l).length_eq.trans (by simp)
namespace rsorted
noncomputable def bd:Code:=(Tryz.f15.body).getD .skip
noncomputable def X:Ctx U El:=⟨E,tds,zeros,eqs,specOf [(37,rwith.sp)],100000,18,dspecOf [],fun _=>none⟩
noncomputable def nmR:Norm U:=⟨[],[2],[],[(2,.msg)],[],[],[]⟩
noncomputable def RR:Kont U El:=fun st=>normK nmR st (retFin [2] [])
noncomputable def nm1:Norm U:=⟨[],[3],[],[(3,.msg)],[],[],[]⟩
noncomputable def nm2:Norm U:=⟨[],[0,3,4],[],[(3,.msg)],[],[],[]⟩
abbrev Y1:=(List Msg)→R
abbrev Y2:=(List Msg)→(List Msg)→Int→R
noncomputable def fr0 (l:List Msg):St U El:=⟨[(0,(.lst .msg l))],[]⟩
noncomputable def fr1 (aA:List Msg):St U El:=⟨[(3,(.lst .msg aA))],[]⟩
noncomputable def fr2 (l0:List Msg) (aA:List Msg) (i4:Int):St U El:=⟨[(0,(.lst .msg l0)),(3,(.lst .msg aA)),(4,(.int .i64 i4))],[]⟩
noncomputable def sh0 (l:List Msg) (k2:Y2):R :=
  k2 l ([]:List Msg) (0:Int)
noncomputable def sh1 (aA:List Msg):R :=
  some ((.lst .msg aA),[])
noncomputable def sh2 (l0:List Msg) (aA:List Msg) (i4:Int) (k1:Y1) (k2:Y2):R :=
  condB (ilt i4 (Int.ofNat (List.length l0))) (chk (inb i4 (List.length l0)) (chk (nle (List.length aA) 90000) (k2 l0 (withL (List.getD l0 (Int.toNat i4) d_msg) aA) (IntKind.wrap .i64 (i4+(1:Int)))))) (k1 aA)
noncomputable def it2 (Kb1:Kont U El) (n:Nat):Kont U El:=iter nm2 (fun st' K'=>exec X (cdp [1,1,0,1,0,0] bd) .d st' K' (Eblk 0 (cutK nm1 Kb1) (fun _ _=>none)) RR) n
noncomputable def ct1:Kont U El:=fun st=>exec X (cdp [1,1,1] bd) .d st RR (fun _ _=>none) RR
theorem P0 (l):exec X (cdp [] bd) (.seq none .d (.seq none .d (.seq (some nm1) (.seq none .d (.block (.loop nm2 .d))) .d))) (fr0 l) RR (fun _ _=>none) RR=sh0 l (fun y0 y1 y2=>(hid (it2 (hid ct1) 100000)) (fr2 y0 y1 y2)):=by kernel_rfl
theorem P1 (aA):ct1 (fr1 aA)=sh1 aA:=by kernel_rfl
theorem P2 (l0 aA i4) (Kb1 Kb2:Kont U El):exec X (cdp [1,1,0,1,0,0] bd) .d (fr2 l0 aA i4) (cutK nm2 Kb2) (Eblk 0 (cutK nm1 Kb1) (fun _ _=>none)) RR=sh2 l0 aA i4 (fun y0=>Kb1 (fr1 y0)) (fun y0 y1 y2=>Kb2 (fr2 y0 y1 y2)):=by kernel_rfl
noncomputable def f1 (aA:List Msg):R:=sh1 aA
noncomputable def f2:Nat→Y2
  | 0=>fun _ _ _=>none
  | n+1=>fun l0 aA i4=>sh2 l0 aA i4 f1 (f2 n)
noncomputable def f0 (l:List Msg):R:=sh0 l (f2 100000)
theorem T1 (aA):(hid ct1) (fr1 aA)=f1 aA:=by
  refine (congrFun (hid_eq _) _).trans <| (P1 aA).trans ?_
  show _=sh1 aA
  rfl
theorem T2:∀ (n:Nat),∀ l0 aA i4,it2 (hid ct1) n (fr2 l0 aA i4)=f2 n l0 aA i4:=by
  intro n
  induction n with
  | zero=>intros; rfl
  | succ n ih =>
    intro l0 aA i4
    refine (P2 l0 aA i4 (hid ct1) (it2 (hid ct1) n)).trans ?_
    show _=sh2 l0 aA i4 f1 (f2 n)
    simp only [T1,ih]
theorem H2 (l0 aA i4):hid (it2 (hid ct1) 100000) (fr2 l0 aA i4)=f2 100000 l0 aA i4:=(congrFun (hid_eq _) _).trans (T2 100000 l0 aA i4)
theorem T0 (l):exec X bd (.seq none .d (.seq none .d (.seq (some nm1) (.seq none .d (.block (.loop nm2 .d))) .d))) (fr0 l) RR (fun _ _=>none) RR=f0 l:=by
  refine (P0 l).trans ?_
  show _=sh0 l (f2 100000)
  simp only [H2]
theorem run (l):runFn X bd (.seq none .d (.seq none .d (.seq (some nm1) (.seq none .d (.block (.loop nm2 .d))) .d))) nmR [2] [] [(.lst .msg l)]=f0 l:=T0 l
theorem loop (l:List Msg) (hl:l.length≤90000):∀ (n i:Nat) (out:List Msg),l.length < n+i→i≤l.length→out.length=i→f2 n l out (i:Int)=some ((.lst .msg ((l.drop i).foldl (fun out m=>withL m out) out)),[]):=by
  intro n
  induction n with
  | zero=>intro i out h1 h2; omega
  | succ n ih =>
    intro i out h1 h2 h3
    show sh2 l out (i:Int) f1 (f2 n)=_
    unfold sh2
    by_cases hi:i < l.length
    · rw [iltT (by simp; omega), condT, inbT hi, chkT, nleT (by omega), chkT, toNat_nat, getD_lt hi, wrapS i (by omega), drop_lt hi]
      exact ih (i+1) _ (by omega) hi (by rw [with_len]; omega)
    · have : i = l.length := by omega
      subst this
      rw [iltF (by simp),condF,List.drop_length]
      rfl
theorem f0_eq (l:List Msg) (h:nle (List.length l) 90000=true):f0 l=some ((.lst .msg (rsortM l)),[]) :=
  loop l (nleI h) 100000 0 [] (by have:=nleI h; omega) (by omega) rfl
theorem ok:CtxOk Tryz.prog X:=ctxOk tab (spC rwith.spOk spN) dpN
theorem okM:MOk Tryz.prog X:=fun g sp h=>by cases h
theorem spec (l:List Msg) (h:(nle (List.length l) 90000)=true):CallSpec Tryz.prog E 15 [(.lst .msg l)] (.lst .msg (rsortM l)) [] :=
  runFn_sound ok okM Tryz.call15 Tryz.func15 (by kernel_rfl) (by kernel_rfl) (by kernel_rfl) (by show 1≤18; decide) (by decide) (by rfl) ((run l).trans (f0_eq l h))
noncomputable def sp:Sp U El:=fun args k=>match args with
  | [.lst .msg l]=>chk (nle (List.length l) 90000) (k (.lst .msg (rsortM l)) [])
  | _=>none
theorem spOk:SpOk Tryz.prog E 15 sp where
  det:=fun vs=>by
    unfold sp
    split
    · exact det_c _ _ _
    · exact ⟨none,fun _=>rfl⟩
  ok:=fun vs k r h=>by
    unfold sp at h
    split at h
    · obtain ⟨h1, h2⟩ := chk_some h
      exact ⟨_,_,spec _ h1,h2⟩
    · cases h
end rsorted
theorem rsort_eq:∀ (l pre:List Msg),keysB (pre++l)=true→l.foldl (fun out m=>withL m out) (sortM pre)=sortM (pre++l):=by
  intro l
  induction l with
  | nil=>intro pre _; simp
  | cons m l ih =>
    intro pre h
    have e:pre++m :: l=(pre++[m])++l:=by simp
    rw [e] at h
    have hk:keysB (pre++[m])=true:=keysB_sub h fun y hy=>List.mem_append.2 (.inl hy)
    rw [List.foldl_cons,← sortM_snoc hk,ih (pre++[m]) h,e]
namespace lawForms
noncomputable def bd:Code:=(Tryz.f3.body).getD .skip
noncomputable def X:Ctx U El:=⟨E,tds,zeros,eqs,specOf [(4,awake.sp),(5,many.sp),(6,decode.sp),(7,rdecode.sp),(8,encodeE.sp),(9,rright.sp),(10,rencode.sp),(11,validC.sp),(12,rvalid.sp),(13,sortedM.sp),(14,equalM.sp),(15,rsorted.sp)],100000,121,dspecOf [],fun _=>none⟩
noncomputable def nmR:Norm U:=⟨[],[6],[],[],[],[],[]⟩
noncomputable def RR:Kont U El:=fun st=>normK nmR st (retFin [6] [])
noncomputable def nm1:Norm U:=⟨[],[0,2,4],[4],[],[],[],[]⟩
noncomputable def nm2:Norm U:=⟨[],[0,4,11,12],[4],[],[],[],[]⟩
noncomputable def nm3:Norm U:=⟨[],[0],[],[],[],[],[]⟩
abbrev Y1:=(List Msg)→(List UInt8)→Msg→R
abbrev Y2:=(List Msg)→(List UInt8)→Int→Msg→R
abbrev Y3:=(List Msg)→R
noncomputable def fr0 (l:List Msg) (m:Msg) (s:List UInt8):St U El:=⟨[(0,(.lst .msg l)),(1,(.agg [(.str m.nd),(.int .i64 m.no),(.int .i64 m.at_),(.int .i64 m.ar),(.int .i64 m.lv)])),(2,(.str s))],[]⟩
noncomputable def fr1 (l0:List Msg) (s2:List UInt8) (b4:Msg):St U El:=⟨[(0,(.lst .msg l0)),(2,(.str s2)),(4,(.ptr 4 0))],[(4,(.box 0 [(.str b4.nd),(.int .i64 b4.no),(.int .i64 b4.at_),(.int .i64 b4.ar),(.int .i64 b4.lv)]))]⟩
noncomputable def fr2 (l0:List Msg) (bA:List UInt8) (cA:Int) (b4:Msg):St U El:=⟨[(0,(.lst .msg l0)),(4,(.ptr 4 0)),(11,(.str bA)),(12,(.int .i64 cA))],[(4,(.box 0 [(.str b4.nd),(.int .i64 b4.no),(.int .i64 b4.at_),(.int .i64 b4.ar),(.int .i64 b4.lv)]))]⟩
noncomputable def fr3 (l0:List Msg):St U El:=⟨[(0,(.lst .msg l0))],[]⟩
noncomputable def sh0 (l:List Msg) (m:Msg) (s:List UInt8) (k1:Y1):R :=
  condB (!(true)) (some ((.bool false),[])) (chk (ile (60:Int) 80000) (condB (manyB l (60:Int)) (some ((.bool true),[])) (condB (ilt (100:Int) (Int.ofNat (List.length m.nd))) (some ((.bool true),[])) (condB (ilt (200:Int) (Int.ofNat (List.length s))) (some ((.bool true),[])) (k1 l s m)))))
noncomputable def sh1 (l0:List Msg) (s2:List UInt8) (b4:Msg) (k2:Y2):R :=
  chk (nle (List.length s2) 90000) (chk (nle (List.length s2) 90000) (condB (!(((decM s2).nd == (decM s2).nd)&&(((decM s2).no == (decM s2).no)&&(((decM s2).at_ == (decM s2).at_)&&(((decM s2).ar == (decM s2).ar)&&(((decM s2).lv == (decM s2).lv)&&true)))))) (some ((.bool false),[])) (condB ((decE s2) != (decE s2)) (some ((.bool false),[])) (k2 l0 ((bif rightB b4 then encS b4 else [])) ((bif rightB b4 then 0 else 1)) b4))))
noncomputable def sh2 (l0:List Msg) (bA:List UInt8) (cA:Int) (b4:Msg) (k3:Y3):R :=
  condB (!(rightB b4)) (condB (!(bA == ([]:List UInt8))) (some ((.bool false),[])) (condB (cA != (1:Int)) (some ((.bool false),[])) (k3 l0))) (chk (nle (List.length bA) 90000) (chk (rightB b4) (condB (!(bA == (encS b4))) (some ((.bool false),[])) (condB (cA != (0:Int)) (some ((.bool false),[])) (condB (!(((decM bA).nd == b4.nd)&&(((decM bA).no == b4.no)&&(((decM bA).at_ == b4.at_)&&(((decM bA).ar == b4.ar)&&(((decM bA).lv == b4.lv)&&true)))))) (some ((.bool false),[])) (condB ((decE bA) != (0:Int)) (some ((.bool false),[])) (k3 l0)))))))
noncomputable def sh3 (l0:List Msg):R :=
  condB (ilt (60:Int) (Int.ofNat (List.length l0))) (some ((.bool (!(validB l0))),[])) (condB (!((validB l0) == (validB l0))) (some ((.bool false),[])) (condB (!(validB l0)) (condB ((Int.ofNat (List.length ((bif validB l0 then sortM l0 else [])))) == (0:Int)) (some ((.bool (((bif validB l0 then 0 else 1)) == (1:Int))),[])) (some ((.bool false),[]))) (condB (((bif validB l0 then 0 else 1)) == (0:Int)) (chk (nle (List.length l0) 90000) (chk (nle (List.length ((bif validB l0 then sortM l0 else []))) 90000) (some ((.bool (eqL ((bif validB l0 then sortM l0 else [])) (rsortM l0))),[])))) (some ((.bool false),[])))))
noncomputable def ct1:Kont U El:=fun st=>exec X (cdp [1,1,1] bd) (.seq none .d (.seq none .d (.seq none .d (.seq (some nm2) .d (.seq (some nm3) .d .d))))) st RR (fun _ _=>none) RR
noncomputable def ct2:Kont U El:=fun st=>exec X (cdp [1,1,1,1,1,1,1] bd) (.seq (some nm3) .d .d) st RR (fun _ _=>none) RR
noncomputable def ct3:Kont U El:=fun st=>exec X (cdp [1,1,1,1,1,1,1,1] bd) .d st RR (fun _ _=>none) RR
theorem P0 (l m s):exec X (cdp [] bd) (.seq none .d (.seq none .d (.seq (some nm1) .d (.seq none .d (.seq none .d (.seq none .d (.seq (some nm2) .d (.seq (some nm3) .d .d)))))))) (fr0 l m s) RR (fun _ _=>none) RR=sh0 l m s (fun y0 y1 y2=>(hid ct1) (fr1 y0 y1 y2)):=by kernel_rfl
theorem P1 (l0 s2 b4):ct1 (fr1 l0 s2 b4)=sh1 l0 s2 b4 (fun y0 y1 y2 y3=>(hid ct2) (fr2 y0 y1 y2 y3)):=by kernel_rfl
theorem P2 (l0 bA cA b4):ct2 (fr2 l0 bA cA b4)=sh2 l0 bA cA b4 (fun y0=>(hid ct3) (fr3 y0)):=by kernel_rfl
theorem P3 (l0):ct3 (fr3 l0)=sh3 l0:=by kernel_rfl
noncomputable def f3 (l0:List Msg):R:=sh3 l0
noncomputable def f2 (l0:List Msg) (bA:List UInt8) (cA:Int) (b4:Msg):R:=sh2 l0 bA cA b4 f3
noncomputable def f1 (l0:List Msg) (s2:List UInt8) (b4:Msg):R:=sh1 l0 s2 b4 f2
noncomputable def f0 (l:List Msg) (m:Msg) (s:List UInt8):R:=sh0 l m s f1
theorem T3 (l0):(hid ct3) (fr3 l0)=f3 l0:=by
  refine (congrFun (hid_eq _) _).trans <| (P3 l0).trans ?_
  show _=sh3 l0
  rfl
theorem T2 (l0 bA cA b4):(hid ct2) (fr2 l0 bA cA b4)=f2 l0 bA cA b4:=by
  refine (congrFun (hid_eq _) _).trans <| (P2 l0 bA cA b4).trans ?_
  show _=sh2 l0 bA cA b4 f3
  simp only [T3]
theorem T1 (l0 s2 b4):(hid ct1) (fr1 l0 s2 b4)=f1 l0 s2 b4:=by
  refine (congrFun (hid_eq _) _).trans <| (P1 l0 s2 b4).trans ?_
  show _=sh1 l0 s2 b4 f2
  simp only [T2]
theorem T0 (l m s):exec X bd (.seq none .d (.seq none .d (.seq (some nm1) .d (.seq none .d (.seq none .d (.seq none .d (.seq (some nm2) .d (.seq (some nm3) .d .d)))))))) (fr0 l m s) RR (fun _ _=>none) RR=f0 l m s:=by
  refine (P0 l m s).trans ?_
  show _=sh0 l m s f1
  simp only [T1]
theorem run (l m s):runFn X bd (.seq none .d (.seq none .d (.seq (some nm1) .d (.seq none .d (.seq none .d (.seq none .d (.seq (some nm2) .d (.seq (some nm3) .d .d)))))))) nmR [6] [] [(.lst .msg l),(.agg [(.str m.nd),(.int .i64 m.no),(.int .i64 m.at_),(.int .i64 m.ar),(.int .i64 m.lv)]),(.str s)]=f0 l m s:=T0 l m s
theorem tail (l : List Msg) (h : l.length ≤ 60 ∨ 10000 < l.length) : f3 l = outB true := by
  show sh3 l=_
  unfold sh3
  by_cases h6:60 < l.length
  · rw [iltT (by simp; omega), condT]
    have:validB l=false:=by
      unfold validB
      rw [ileF (by simp; omega)]
      rfl
    rw [this]
    rfl
  · rw [iltF (by simp; omega), condF]
    cases hv:validB l with
    | false=>rfl
    | true =>
      have hk:keysB ([]++l)=true:=(valid_keys hv).1
      have hs:rsortM l=sortM l:=by
        have:=rsort_eq l [] hk
        rwa [show sortM ([]:List Msg)=[] from List.mergeSort_nil] at this
      have hlen:(sortM l).length=l.length:=(sortM_perm l).length_eq
      rw [hs]
      simp only [cond_true]
      rw [nleT (show l.length≤90000 by omega),nleT (show (sortM l).length≤90000 by omega),eqL_self]
      rfl
theorem f0_eq (l : List Msg) (m : Msg) (s : List UInt8) : f0 l m s = some ((.bool true), []) := by
  show sh0 l m s f1=outB true
  unfold sh0
  rw [show (!true)=false from rfl,condF,show ile (60:Int) 80000=true from rfl,chkT]
  cases hm:manyB l 60 with
  | true=>rfl
  | false =>
    have hl:l.length≤60∨10000 < l.length:=by
      unfold manyB at hm
      simp only [Bool.or_eq_false_iff] at hm
      obtain ⟨h1,h2,_⟩:=hm
      by_cases h6:l.length≤60
      · exact .inl h6
      · refine .inr ?_
        rw [iltT (by simp; omega),Bool.true_and] at h1
        have:=of_decide_eq_false h1
        simp only [Int.ofNat_eq_natCast] at this
        omega
    rw [condF]
    by_cases hn:100 < m.nd.length
    · rw [iltT (by simp; omega)]; rfl
    · rw [iltF (by simp; omega), condF]
      by_cases hs:200 < s.length
      · rw [iltT (by simp; omega)]; rfl
      · rw [iltF (by simp; omega), condF]
        show sh1 l s m f2=_
        unfold sh1
        rw [nleT (by omega),chkT,chkT]
        simp only [beq_self_eq_true,Bool.and_self,bne_self_eq_false,Bool.not_true]
        rw [condF,condF]
        show sh2 l _ _ m f3=_
        unfold sh2
        cases hr:rightB m with
        | false =>
          show f3 l=_
          exact tail l hl
        | true =>
          have hd:DecS (encS m) m:=⟨hr,rfl⟩
          have e1:decM (encS m)=m:=by unfold decM; rw [decO_some.2 hd]; rfl
          have e2:decE (encS m)=0:=by unfold decE; rw [decO_some.2 hd]; rfl
          have hlen:=enc_len hr
          simp only [cond_true]
          rw [nleT (show (encS m).length≤90000 by omega),chkT,e1,e2]
          simp only [beq_self_eq_true,Bool.and_self,bne_self_eq_false,Bool.not_true]
          rw [condF,condF,chkT,condF,condF]
          exact tail l hl
theorem ok:CtxOk Tryz.prog X:=ctxOk tab (spC awake.spOk (spC many.spOk (spC decode.spOk (spC rdecode.spOk (spC encodeE.spOk (spC rright.spOk (spC rencode.spOk (spC validC.spOk (spC rvalid.spOk (spC sortedM.spOk (spC equalM.spOk (spC rsorted.spOk spN)))))))))))) dpN
theorem okM:MOk Tryz.prog X:=fun g sp h=>by cases h
theorem spec (l:List Msg) (m:Msg) (s:List UInt8):CallSpec Tryz.prog E 3 [(.lst .msg l),(.agg [(.str m.nd),(.int .i64 m.no),(.int .i64 m.at_),(.int .i64 m.ar),(.int .i64 m.lv)]),(.str s)] (.bool (true)) [] :=
  runFn_sound ok okM Tryz.call3 Tryz.func3 (by kernel_rfl) (by kernel_rfl) (by kernel_rfl) (by show 3≤121; decide) (by decide) (by rfl) ((run l m s).trans (f0_eq l m s))
noncomputable def sp:Sp U El:=fun args k=>match args with
  | [.lst .msg l,.agg [.str m_nd,.int .i64 m_no,.int .i64 m_at_,.int .i64 m_ar,.int .i64 m_lv],.str s]=>k (.bool (true)) []
  | _=>none
theorem spOk:SpOk Tryz.prog E 3 sp where
  det:=fun vs=>by
    unfold sp
    split
    · exact ⟨some (_,_),fun _=>rfl⟩
    · exact ⟨none,fun _=>rfl⟩
  ok:=fun vs k r h=>by
    unfold sp at h
    split at h
    · exact ⟨_,_,spec _ ⟨_,_,_,_,_⟩ _,h⟩
    · cases h
end lawForms
end Go.Proofs.YtkeplmpcijigaaaGreatDoor
