/- Texts of surfaces: the code's and the document's. -/
import Derived.Test.YtnofdcckddfooaaGreatDoorPA
import Derived.Test.YtnofdcckddfooaaGreatDoorTL
import Derived.Test.YtnofdcckddfooaaGreatDoorVI
namespace Go.Proofs.YtnofdcckddfooaaGreatDoor
set_option linter.unusedSectionVars false
set_option linter.unusedSimpArgs false
set_option linter.unusedVariables false
set_option maxRecDepth 100000
noncomputable def i60 (n:Int):Bool:=ile (-1000000000000000000) n&&ile n 1000000000000000000
noncomputable def smI (n:Int):Bool:=ile (-1000000000) n&&ile n 1000000000
noncomputable def spoN (s:Spot):List Int:=[s.px,s.py,s.pz]
noncomputable def fcN (f:Face):List Int:=[f.fa,f.fb,f.fc,f.fk]
noncomputable def textS:List Spot→List UInt8
  | []=>[]
  | s :: l=>lineS wSpot (spoN s)++textS l
noncomputable def textF:List Face→List UInt8
  | []=>[]
  | f :: l=>lineS wFace (fcN f)++textF l
noncomputable def textM (m:Mesh):List UInt8:=textS m.ms++textF m.mf
noncomputable def textV (m:Mesh):List UInt8:=bif validM m then textM m else []
theorem sm_iff {n:Int}:smI n=true ↔ -1000000000≤n∧n≤1000000000:=by
  unfold smI
  rw [Bool.and_eq_true]
  exact ⟨fun h=>⟨ileI h.1,ileI h.2⟩,fun h=>⟨ileT h.1,ileT h.2⟩⟩
theorem sm_60 {n:Int} (h:smI n=true):i60 n=true:=by
  have:=sm_iff.1 h
  unfold i60
  rw [ileT (by omega),ileT (by omega)]
  rfl
theorem sm_64 {n:Int} (h:smI n=true):(ile (-9223372036854775808) n&&ile n 9223372036854775807)=true:=by
  have:=sm_iff.1 h
  rw [ileT (by omega),ileT (by omega)]
  rfl
theorem sm_nsOk {ns:List Int} (h:∀ n∈ns,smI n=true) (hl:ns.length≤4):nsOk ns=true:=by
  unfold nsOk
  rw [Bool.and_eq_true]
  exact ⟨List.all_eq_true.2 fun n hn=>sm_64 (h n hn),nleT (by omega)⟩
theorem line_len {wd:List UInt8} {ns:List Int} (h:∀ n∈ns,smI n=true) (hl:ns.length≤4) (hw:wd.length≤4):(lineS wd ns).length≤100:=by
  have:=numsS_len ns fun n hn=>by have:=sm_iff.1 (h n hn); omega
  unfold lineS
  simp only [List.length_append,List.length_cons,List.length_nil]
  omega
theorem clean_good (m:Mesh):∀ (r l:List Face),cleanR m l r=true→∀ f∈r,goodC m f=true:=by
  intro r
  induction r with
  | nil=>intro l _ f hf; cases hf
  | cons a r ih =>
    intro l h f hf
    simp only [cleanR,Bool.and_eq_true] at h
    rcases List.mem_cons.1 hf with rfl | hf
    · exact h.1
    · exact ih _ h.2.2.2.2 f hf
theorem valid_sm {m:Mesh} (hv:validM m=true):(∀ s∈m.ms,∀ n∈spoN s,smI n=true)∧∀ f∈m.mf,∀ n∈fcN f,smI n=true:=by
  have hs:=valid_small hv
  have hin:=valid_in hv
  simp only [validM,Bool.and_eq_true] at hv
  have h2:=hv.2
  rw [← clean_D] at h2
  simp only [cleanD,Bool.and_eq_true] at h2
  constructor
  · intro s hm n hn
    have hr:=cleanP_right _ _ h2.1 s hm
    simp only [rightB,validP,Bool.and_eq_true] at hr
    have a1:=ileI hr.1.1; have a2:=ileI hr.1.2.1; have a3:=ileI hr.1.2.2.1; have a4:=ileI hr.1.2.2.2; have a5:=ileI hr.2.1; have a6:=ileI hr.2.2
    simp only [spoN,List.mem_cons,List.not_mem_nil,or_false] at hn
    rw [sm_iff]
    rcases hn with rfl | rfl | rfl<;>omega
  · intro f hm n hn
    have hg:=clean_good m _ _ h2.2 f hm
    have hi:=hin f hm
    simp only [goodC,Bool.and_eq_true] at hg
    have b1:=ileI hg.2.2.2.1; have b2:=iltI hg.2.2.2.2
    simp only [faceIn,inb,Bool.and_eq_true] at hi
    have c1:=ileI hi.1.1; have c2:=iltI hi.1.2; have c3:=ileI hi.2.1.1; have c4:=iltI hi.2.1.2; have c5:=ileI hi.2.2.1; have c6:=iltI hi.2.2.2
    simp only [fcN,List.mem_cons,List.not_mem_nil,or_false] at hn
    rw [sm_iff]
    rcases hn with rfl | rfl | rfl | rfl<;>omega
namespace text
noncomputable def bd:Code:=(Tryz.f13.body).getD .skip
noncomputable def X:Ctx U El:=⟨E,tds,zeros,eqs,specOf [(34,valid.sp)],100000,47,dspecOf [],mspecOf [(36,lineSp),(37,strSp .u8 (fun s=>s))]⟩
noncomputable def nmR:Norm U:=⟨[],[2,3],[],[],[],[],[]⟩
noncomputable def RR:Kont U El:=fun st=>normK nmR st (retFin [2,3] [])
noncomputable def nm1:Norm U:=⟨[],[1,4],[4,4000,1],[],[],[],[(1,0,.spot),(1,1,.face)]⟩
noncomputable def nm2:Norm U:=⟨[],[1,4,13,14,15],[4,4000,1],[],[],[],[(1,0,.spot),(1,1,.face)]⟩
noncomputable def nm3:Norm U:=⟨[],[4],[4,4000],[],[],[],[]⟩
noncomputable def nm4:Norm U:=⟨[],[4,29,30,31],[4,4000],[],[],[],[]⟩
abbrev Y1:=(List UInt8)→(List Spot)→(List Face)→R
abbrev Y2:=(List Spot)→Int→Int→(List UInt8)→(List Spot)→(List Face)→R
abbrev Y3:=(List UInt8)→R
abbrev Y4:=(List Face)→Int→Int→(List UInt8)→R
noncomputable def fr0 (m:Mesh):St U El:=⟨[(0,(.agg [(.lst .spot m.ms),(.lst .face m.mf)]))],[]⟩
noncomputable def fr1 (dA:List UInt8) (cA:List Spot) (aA:List Face):St U El:=⟨[(1,(.ptr 1 0)),(4,(.ptr 4 0))],[(4,(.bld 77 4000)),(4000,(.rows .u8 dA)),(1,(.box 0 [(.lst .spot cA),(.lst .face aA)]))]⟩
noncomputable def fr2 (hA:List Spot) (iA:Int) (gA:Int) (dA:List UInt8) (cA:List Spot) (aA:List Face):St U El:=⟨[(1,(.ptr 1 0)),(4,(.ptr 4 0)),(13,(.lst .spot hA)),(14,(.int .i64 iA)),(15,(.int .i64 gA))],[(4,(.bld 77 4000)),(4000,(.rows .u8 dA)),(1,(.box 0 [(.lst .spot cA),(.lst .face aA)]))]⟩
noncomputable def fr3 (dA:List UInt8):St U El:=⟨[(4,(.ptr 4 0))],[(4,(.bld 77 4000)),(4000,(.rows .u8 dA))]⟩
noncomputable def fr4 (fA:List Face) (jA:Int) (eA:Int) (dA:List UInt8):St U El:=⟨[(4,(.ptr 4 0)),(29,(.lst .face fA)),(30,(.int .i64 jA)),(31,(.int .i64 eA))],[(4,(.bld 77 4000)),(4000,(.rows .u8 dA))]⟩
noncomputable def sh0 (m:Mesh) (k2:Y2):R :=
  chk (sizeOk m) (condB (!(validM m)) (some ((.tup [(.str ([]:List UInt8)),(.int .i64 (1:Int))]),[])) (k2 m.ms (Int.ofNat (List.length m.ms)) (0:Int) ([]:List UInt8) m.ms m.mf))
noncomputable def sh1 (dA:List UInt8) (cA:List Spot) (aA:List Face) (k4:Y4):R :=
  k4 aA (Int.ofNat (List.length aA)) (0:Int) dA
noncomputable def sh2 (hA:List Spot) (iA:Int) (gA:Int) (dA:List UInt8) (cA:List Spot) (aA:List Face) (k1:Y1) (k2:Y2):R :=
  condB (ilt gA iA) (chk (inb gA (List.length hA)) (chk (true&&(nsOk ([(List.getD hA (Int.toNat gA) d_spot).px,(List.getD hA (Int.toNat gA) d_spot).py,(List.getD hA (Int.toNat gA) d_spot).pz]:List Int)&&nle (List.length dA+List.length ([115,112,111,116]:List UInt8)) 140000000000000)) (k2 hA iA (IntKind.wrap .i64 (gA+(1:Int))) (dA++(lineS ([115,112,111,116]:List UInt8) ([(List.getD hA (Int.toNat gA) d_spot).px,(List.getD hA (Int.toNat gA) d_spot).py,(List.getD hA (Int.toNat gA) d_spot).pz]:List Int))) cA aA))) (k1 dA cA aA)
noncomputable def sh3 (dA:List UInt8):R :=
  chk (true&&nle (List.length dA) 9223372036854775807) (some ((.tup [(.str dA),(.int .i64 (0:Int))]),[]))
noncomputable def sh4 (fA:List Face) (jA:Int) (eA:Int) (dA:List UInt8) (k3:Y3) (k4:Y4):R :=
  condB (ilt eA jA) (chk (inb eA (List.length fA)) (chk (true&&(nsOk ([(List.getD fA (Int.toNat eA) d_face).fa,(List.getD fA (Int.toNat eA) d_face).fb,(List.getD fA (Int.toNat eA) d_face).fc,(List.getD fA (Int.toNat eA) d_face).fk]:List Int)&&nle (List.length dA+List.length ([102,97,99,101]:List UInt8)) 140000000000000)) (k4 fA jA (IntKind.wrap .i64 (eA+(1:Int))) (dA++(lineS ([102,97,99,101]:List UInt8) ([(List.getD fA (Int.toNat eA) d_face).fa,(List.getD fA (Int.toNat eA) d_face).fb,(List.getD fA (Int.toNat eA) d_face).fc,(List.getD fA (Int.toNat eA) d_face).fk]:List Int)))))) (k3 dA)
noncomputable def it2 (Kb1:Kont U El) (n:Nat):Kont U El:=iter nm2 (fun st' K'=>exec X (cdp [1,1,1,0,1,0,0] bd) .d st' K' (Eblk 0 (cutK nm1 Kb1) (fun _ _=>none)) RR) n
noncomputable def it4 (Kb3:Kont U El) (n:Nat):Kont U El:=iter nm4 (fun st' K'=>exec X (cdp [1,1,1,1,0,1,0,0] bd) .d st' K' (Eblk 2 (cutK nm3 Kb3) (fun _ _=>none)) RR) n
noncomputable def ct1:Kont U El:=fun st=>exec X (cdp [1,1,1,1] bd) (.seq (some nm3) (.seq none .d (.block (.loop nm4 .d))) .d) st RR (fun _ _=>none) RR
noncomputable def ct3:Kont U El:=fun st=>exec X (cdp [1,1,1,1,1] bd) .d st RR (fun _ _=>none) RR
theorem P0 (m):exec X (cdp [] bd) (.seq none .d (.seq none .d (.seq none .d (.seq (some nm1) (.seq none .d (.block (.loop nm2 .d))) (.seq (some nm3) (.seq none .d (.block (.loop nm4 .d))) .d))))) (fr0 m) RR (fun _ _=>none) RR=sh0 m (fun y0 y1 y2 y3 y4 y5=>(hid (it2 (hid ct1) 100000)) (fr2 y0 y1 y2 y3 y4 y5)):=by kernel_rfl
theorem P1 (dA cA aA):ct1 (fr1 dA cA aA)=sh1 dA cA aA (fun y0 y1 y2 y3=>(hid (it4 (hid ct3) 100000)) (fr4 y0 y1 y2 y3)):=by kernel_rfl
theorem P2 (hA iA gA dA cA aA) (Kb1 Kb2:Kont U El):exec X (cdp [1,1,1,0,1,0,0] bd) .d (fr2 hA iA gA dA cA aA) (cutK nm2 Kb2) (Eblk 0 (cutK nm1 Kb1) (fun _ _=>none)) RR=sh2 hA iA gA dA cA aA (fun y0 y1 y2=>Kb1 (fr1 y0 y1 y2)) (fun y0 y1 y2 y3 y4 y5=>Kb2 (fr2 y0 y1 y2 y3 y4 y5)):=by kernel_rfl
theorem P3 (dA):ct3 (fr3 dA)=sh3 dA:=by kernel_rfl
theorem P4 (fA jA eA dA) (Kb3 Kb4:Kont U El):exec X (cdp [1,1,1,1,0,1,0,0] bd) .d (fr4 fA jA eA dA) (cutK nm4 Kb4) (Eblk 2 (cutK nm3 Kb3) (fun _ _=>none)) RR=sh4 fA jA eA dA (fun y0=>Kb3 (fr3 y0)) (fun y0 y1 y2 y3=>Kb4 (fr4 y0 y1 y2 y3)):=by kernel_rfl
noncomputable def f3 (dA:List UInt8):R:=sh3 dA
noncomputable def f4:Nat→Y4
  | 0=>fun _ _ _ _=>none
  | n+1=>fun fA jA eA dA=>sh4 fA jA eA dA f3 (f4 n)
noncomputable def f1 (dA:List UInt8) (cA:List Spot) (aA:List Face):R:=sh1 dA cA aA (f4 100000)
noncomputable def f2:Nat→Y2
  | 0=>fun _ _ _ _ _ _=>none
  | n+1=>fun hA iA gA dA cA aA=>sh2 hA iA gA dA cA aA f1 (f2 n)
noncomputable def f0 (m:Mesh):R:=sh0 m (f2 100000)
theorem T3 (dA):(hid ct3) (fr3 dA)=f3 dA:=by
  refine (congrFun (hid_eq _) _).trans <| (P3 dA).trans ?_
  show _=sh3 dA
  rfl
theorem T4:∀ (n:Nat),∀ fA jA eA dA,it4 (hid ct3) n (fr4 fA jA eA dA)=f4 n fA jA eA dA:=by
  intro n
  induction n with
  | zero=>intros; rfl
  | succ n ih =>
    intro fA jA eA dA
    refine (P4 fA jA eA dA (hid ct3) (it4 (hid ct3) n)).trans ?_
    show _=sh4 fA jA eA dA f3 (f4 n)
    simp only [T3,ih]
theorem H4 (fA jA eA dA):hid (it4 (hid ct3) 100000) (fr4 fA jA eA dA)=f4 100000 fA jA eA dA:=(congrFun (hid_eq _) _).trans (T4 100000 fA jA eA dA)
theorem T1 (dA cA aA):(hid ct1) (fr1 dA cA aA)=f1 dA cA aA:=by
  refine (congrFun (hid_eq _) _).trans <| (P1 dA cA aA).trans ?_
  show _=sh1 dA cA aA (f4 100000)
  simp only [H4]
theorem T2:∀ (n:Nat),∀ hA iA gA dA cA aA,it2 (hid ct1) n (fr2 hA iA gA dA cA aA)=f2 n hA iA gA dA cA aA:=by
  intro n
  induction n with
  | zero=>intros; rfl
  | succ n ih =>
    intro hA iA gA dA cA aA
    refine (P2 hA iA gA dA cA aA (hid ct1) (it2 (hid ct1) n)).trans ?_
    show _=sh2 hA iA gA dA cA aA f1 (f2 n)
    simp only [T1,ih]
theorem H2 (hA iA gA dA cA aA):hid (it2 (hid ct1) 100000) (fr2 hA iA gA dA cA aA)=f2 100000 hA iA gA dA cA aA:=(congrFun (hid_eq _) _).trans (T2 100000 hA iA gA dA cA aA)
theorem T0 (m):exec X bd (.seq none .d (.seq none .d (.seq none .d (.seq (some nm1) (.seq none .d (.block (.loop nm2 .d))) (.seq (some nm3) (.seq none .d (.block (.loop nm4 .d))) .d))))) (fr0 m) RR (fun _ _=>none) RR=f0 m:=by
  refine (P0 m).trans ?_
  show _=sh0 m (f2 100000)
  simp only [H2]
theorem run (m):runFn X bd (.seq none .d (.seq none .d (.seq none .d (.seq (some nm1) (.seq none .d (.block (.loop nm2 .d))) (.seq (some nm3) (.seq none .d (.block (.loop nm4 .d))) .d))))) nmR [2,3] [] [(.agg [(.lst .spot m.ms),(.lst .face m.mf)])]=f0 m:=T0 m
theorem facesL (l:List Face) (hl:l.length≤4000) (hsm:∀ f∈l,∀ n∈fcN f,smI n=true):∀ (k i:Nat) (buf:List UInt8),l.length < k+i→i≤l.length→buf.length≤300000+100 * i→f4 k l (Int.ofNat l.length) (i:Int) buf=some ((.tup [(.str (buf++textF (l.drop i))),(.int .i64 (0:Int))]),[]):=by
  intro k
  induction k with
  | zero=>intro i buf h1 h2; omega
  | succ k ih =>
    intro i buf h1 h2 h3
    show sh4 l (Int.ofNat l.length) (i:Int) buf f3 (f4 k)=_
    unfold sh4
    by_cases hi:i < l.length
    · have hs := hsm _ (List.getElem_mem hi)
      have hll:(lineS ([102,97,99,101]:List UInt8) (fcN l[i])).length≤100:=line_len (wd:=wFace) hs (by simp [fcN]) (by simp)
      rw [iltT (by simp; omega),condT,inbT hi,chkT,toNat_nat,getD_lt hi,show nsOk ([(l[i]).fa,(l[i]).fb,(l[i]).fc,(l[i]).fk]:List Int)=true from sm_nsOk hs (by simp [fcN]),nleT (by simp; omega),Bool.and_self,Bool.and_self,chkT,wrapS i (by omega)]
      rw [show ([(l[i]).fa,(l[i]).fb,(l[i]).fc,(l[i]).fk]:List Int)=fcN l[i] from rfl,ih (i+1) _ (by omega) hi (by rw [List.length_append]; omega),drop_lt hi]
      simp only [textF,List.append_assoc]
    · have : i = l.length := by omega
      subst this
      rw [iltF (by simp),condF,List.drop_length]
      show sh3 buf=_
      unfold sh3
      rw [nleT (by omega)]
      simp only [textF,List.append_nil]
      rfl
theorem spotsL (m:Mesh) (hm:m.mf.length≤4000) (hf:∀ f∈m.mf,∀ n∈fcN f,smI n=true) (l:List Spot) (hl:l.length≤2000) (hsm:∀ f∈l,∀ n∈spoN f,smI n=true):∀ (k i:Nat) (buf:List UInt8),l.length < k+i→i≤l.length→buf.length≤100 * i→f2 k l (Int.ofNat l.length) (i:Int) buf m.ms m.mf=some ((.tup [(.str (buf++(textS (l.drop i)++textF m.mf))),(.int .i64 (0:Int))]),[]):=by
  intro k
  induction k with
  | zero=>intro i buf h1 h2; omega
  | succ k ih =>
    intro i buf h1 h2 h3
    show sh2 l (Int.ofNat l.length) (i:Int) buf m.ms m.mf f1 (f2 k)=_
    unfold sh2
    by_cases hi:i < l.length
    · have hs := hsm _ (List.getElem_mem hi)
      have hll:(lineS ([115,112,111,116]:List UInt8) (spoN l[i])).length≤100:=line_len (wd:=wSpot) hs (by simp [spoN]) (by simp)
      rw [iltT (by simp; omega),condT,inbT hi,chkT,toNat_nat,getD_lt hi,show nsOk ([(l[i]).px,(l[i]).py,(l[i]).pz]:List Int)=true from sm_nsOk hs (by simp [spoN]),nleT (by simp; omega),Bool.and_self,Bool.and_self,chkT,wrapS i (by omega)]
      rw [show ([(l[i]).px,(l[i]).py,(l[i]).pz]:List Int)=spoN l[i] from rfl,ih (i+1) _ (by omega) hi (by rw [List.length_append]; omega),drop_lt hi]
      simp only [textS,List.append_assoc]
    · have : i = l.length := by omega
      subst this
      rw [iltF (by simp),condF,List.drop_length]
      show f4 100000 m.mf (Int.ofNat m.mf.length) ((0:Nat):Int) buf=_
      rw [facesL m.mf hm hf 100000 0 buf (by omega) (by omega) (by omega),List.drop_zero]
      rfl
theorem f0_eq (m:Mesh) (h:sizeOk m=true):f0 m=some ((.tup [(.str (textV m)),(.int .i64 (argE m))]),[]):=by
  show sh0 m (f2 100000)=_
  unfold sh0 textV argE
  rw [h,chkT]
  cases hv:validM m with
  | false=>rfl
  | true =>
    have hs:=valid_small hv
    obtain ⟨v1,v2⟩:=valid_sm hv
    show f2 100000 m.ms (Int.ofNat m.ms.length) ((0:Nat):Int) [] m.ms m.mf=_
    rw [spotsL m hs.2 v2 m.ms hs.1 v1 100000 0 [] (by omega) (by omega) (by simp),List.drop_zero]
    rfl
theorem ok:CtxOk Tryz.prog X:=ctxOk tab (spC valid.spOk spN) dpN
theorem okM:MOk Tryz.prog X:=mspecOf_ok _ (mpC (lineOk ok rfl) (mpC (strOk ok byteU rfl) mpN))
theorem spec (m:Mesh) (h:(sizeOk m)=true):CallSpec Tryz.prog E 13 [(.agg [(.lst .spot m.ms),(.lst .face m.mf)])] (.tup [(.str (textV m)),(.int .i64 (argE m))]) [] :=
  runFn_sound ok okM Tryz.call13 Tryz.func13 (by kernel_rfl) (by kernel_rfl) (by kernel_rfl) (by show 1≤47; decide) (by decide) (by rfl) ((run m).trans (f0_eq m h))
noncomputable def sp:Sp U El:=fun args k=>match args with
  | [.agg [.lst .spot m_ms,.lst .face m_mf]]=>chk (sizeOk (⟨m_ms,m_mf⟩:Mesh)) (k (.tup [(.str (textV (⟨m_ms,m_mf⟩:Mesh))),(.int .i64 (argE (⟨m_ms,m_mf⟩:Mesh)))]) [])
  | _=>none
theorem spOk:SpOk Tryz.prog E 13 sp where
  det:=fun vs=>by
    unfold sp
    split
    · exact det_c _ _ _
    · exact ⟨none,fun _=>rfl⟩
  ok:=fun vs k r h=>by
    unfold sp at h
    split at h
    · obtain ⟨h1, h2⟩ := chk_some h
      exact ⟨_,_,spec ⟨_,_⟩ h1,h2⟩
    · cases h
end text
namespace rnums
noncomputable def bd:Code:=(Tryz.f40.body).getD .skip
noncomputable def X:Ctx U El:=⟨E,tds,zeros,eqs,specOf [(72,dec4.sp)],100000,20,dspecOf [],fun _=>none⟩
noncomputable def nmR:Norm U:=⟨[],[2],[],[],[],[],[]⟩
noncomputable def RR:Kont U El:=fun st=>normK nmR st (retFin [2] [])
noncomputable def nm1:Norm U:=⟨[],[3],[],[],[],[],[]⟩
noncomputable def nm2:Norm U:=⟨[],[0,3,4],[],[],[],[],[]⟩
abbrev Y1:=(List UInt8)→R
abbrev Y2:=(List Int)→(List UInt8)→Int→R
noncomputable def fr0 (l:List Int):St U El:=⟨[(0,(.lst .int l))],[]⟩
noncomputable def fr1 (bA:List UInt8):St U El:=⟨[(3,(.str bA))],[]⟩
noncomputable def fr2 (l0:List Int) (bA:List UInt8) (i4:Int):St U El:=⟨[(0,(.lst .int l0)),(3,(.str bA)),(4,(.int .i64 i4))],[]⟩
noncomputable def sh0 (l:List Int) (k2:Y2):R :=
  k2 l ([]:List UInt8) (0:Int)
noncomputable def sh1 (bA:List UInt8):R :=
  some ((.str bA),[])
noncomputable def sh2 (l0:List Int) (bA:List UInt8) (i4:Int) (k1:Y1) (k2:Y2):R :=
  condB (ilt i4 (Int.ofNat (List.length l0))) (chk (nle (List.length bA+List.length ([32]:List UInt8)) 9223372036854775807) (chk (inb i4 (List.length l0)) (chk ((ile (-1000000000000000000) (List.getD l0 (Int.toNat i4) d_int)&&ile (List.getD l0 (Int.toNat i4) d_int) 1000000000000000000)) (chk (nle (List.length (bA++([32]:List UInt8))+List.length (Lib.itoa (List.getD l0 (Int.toNat i4) d_int))) 9223372036854775807) (k2 l0 ((bA++([32]:List UInt8))++(Lib.itoa (List.getD l0 (Int.toNat i4) d_int))) (IntKind.wrap .i64 (i4+(1:Int)))))))) (k1 bA)
noncomputable def it2 (Kb1:Kont U El) (n:Nat):Kont U El:=iter nm2 (fun st' K'=>exec X (cdp [1,1,0,1,0,0] bd) .d st' K' (Eblk 0 (cutK nm1 Kb1) (fun _ _=>none)) RR) n
noncomputable def ct1:Kont U El:=fun st=>exec X (cdp [1,1,1] bd) .d st RR (fun _ _=>none) RR
theorem P0 (l):exec X (cdp [] bd) (.seq none .d (.seq none .d (.seq (some nm1) (.seq none .d (.block (.loop nm2 .d))) .d))) (fr0 l) RR (fun _ _=>none) RR=sh0 l (fun y0 y1 y2=>(hid (it2 (hid ct1) 100000)) (fr2 y0 y1 y2)):=by kernel_rfl
theorem P1 (bA):ct1 (fr1 bA)=sh1 bA:=by kernel_rfl
theorem P2 (l0 bA i4) (Kb1 Kb2:Kont U El):exec X (cdp [1,1,0,1,0,0] bd) .d (fr2 l0 bA i4) (cutK nm2 Kb2) (Eblk 0 (cutK nm1 Kb1) (fun _ _=>none)) RR=sh2 l0 bA i4 (fun y0=>Kb1 (fr1 y0)) (fun y0 y1 y2=>Kb2 (fr2 y0 y1 y2)):=by kernel_rfl
noncomputable def f1 (bA:List UInt8):R:=sh1 bA
noncomputable def f2:Nat→Y2
  | 0=>fun _ _ _=>none
  | n+1=>fun l0 bA i4=>sh2 l0 bA i4 f1 (f2 n)
noncomputable def f0 (l:List Int):R:=sh0 l (f2 100000)
theorem T1 (bA):(hid ct1) (fr1 bA)=f1 bA:=by
  refine (congrFun (hid_eq _) _).trans <| (P1 bA).trans ?_
  show _=sh1 bA
  rfl
theorem T2:∀ (n:Nat),∀ l0 bA i4,it2 (hid ct1) n (fr2 l0 bA i4)=f2 n l0 bA i4:=by
  intro n
  induction n with
  | zero=>intros; rfl
  | succ n ih =>
    intro l0 bA i4
    refine (P2 l0 bA i4 (hid ct1) (it2 (hid ct1) n)).trans ?_
    show _=sh2 l0 bA i4 f1 (f2 n)
    simp only [T1,ih]
theorem H2 (l0 bA i4):hid (it2 (hid ct1) 100000) (fr2 l0 bA i4)=f2 100000 l0 bA i4:=(congrFun (hid_eq _) _).trans (T2 100000 l0 bA i4)
theorem T0 (l):exec X bd (.seq none .d (.seq none .d (.seq (some nm1) (.seq none .d (.block (.loop nm2 .d))) .d))) (fr0 l) RR (fun _ _=>none) RR=f0 l:=by
  refine (P0 l).trans ?_
  show _=sh0 l (f2 100000)
  simp only [H2]
theorem run (l):runFn X bd (.seq none .d (.seq none .d (.seq (some nm1) (.seq none .d (.block (.loop nm2 .d))) .d))) nmR [2] [] [(.lst .int l)]=f0 l:=T0 l
theorem loop (l : List Int) (hl : l.length ≤ 1000) (h6 : ∀ n ∈ l, i60 n = true) : ∀ (k i : Nat) (out : List UInt8), l.length < k + i → i ≤ l.length → out.length ≤ 30 * i → f2 k l out (i : Int) = some ((.str (out ++ numsS (l.drop i))), []) := by
  intro k
  induction k with
  | zero=>intro i out h1 h2; omega
  | succ k ih =>
    intro i out h1 h2 h3
    show sh2 l out (i:Int) f1 (f2 k)=_
    unfold sh2
    by_cases hi:i < l.length
    · have hs := h6 _ (List.getElem_mem hi)
      have hb : -1000000000000000000≤l[i]∧l[i]≤1000000000000000000:=by
        simp only [i60,Bool.and_eq_true] at hs
        exact ⟨ileI hs.1,ileI hs.2⟩
      have hil:=Lib.itoa_length_le l[i] (by omega) (by omega)
      rw [iltT (by simp; omega),condT,nleT (by simp; omega),chkT,inbT hi,chkT,toNat_nat,getD_lt hi,ileT hb.1,ileT hb.2,Bool.and_self,chkT,nleT (by simp; omega),chkT,wrapS i (by omega),ih (i+1) _ (by omega) hi (by simp; omega),drop_lt hi]
      simp only [numsS,List.append_assoc]
      rfl
    · have : i = l.length := by omega
      subst this
      rw [iltF (by simp),condF,List.drop_length]
      simp only [numsS,List.append_nil]
      rfl
theorem f0_eq (l:List Int) (h:(nle (List.length l) 1000&&List.all l i60)=true):f0 l=some ((.str (numsS l)),[]):=by
  rw [Bool.and_eq_true] at h
  show f2 100000 l [] ((0:Nat):Int)=_
  rw [loop l (nleI h.1) (fun n hn=>List.all_eq_true.1 h.2 n hn) 100000 0 [] (by have:=nleI h.1; omega) (by omega) (by simp),List.drop_zero]
  rfl
theorem ok:CtxOk Tryz.prog X:=ctxOk tab (spC dec4.spOk spN) dpN
theorem okM:MOk Tryz.prog X:=fun g sp h=>by cases h
theorem spec (l:List Int) (h:((nle (List.length l) 1000&&List.all l i60))=true):CallSpec Tryz.prog E 40 [(.lst .int l)] (.str (numsS l)) [] :=
  runFn_sound ok okM Tryz.call40 Tryz.func40 (by kernel_rfl) (by kernel_rfl) (by kernel_rfl) (by show 1≤20; decide) (by decide) (by rfl) ((run l).trans (f0_eq l h))
noncomputable def sp:Sp U El:=fun args k=>match args with
  | [.lst .int l]=>chk ((nle (List.length l) 1000&&List.all l i60)) (k (.str (numsS l)) [])
  | _=>none
theorem spOk:SpOk Tryz.prog E 40 sp where
  det:=fun vs=>by
    unfold sp
    split
    · exact det_c _ _ _
    · exact ⟨none,fun _=>rfl⟩
  ok:=fun vs k r h=>by
    unfold sp at h
    split at h
    · obtain ⟨h1, h2⟩ := chk_some h
      exact ⟨_,_,spec _ h1,h2⟩
    · cases h
end rnums
namespace rtext
noncomputable def bd:Code:=(Tryz.f15.body).getD .skip
noncomputable def X:Ctx U El:=⟨E,tds,zeros,eqs,specOf [(40,rnums.sp)],100000,75,dspecOf [],fun _=>none⟩
noncomputable def nmR:Norm U:=⟨[],[2],[],[],[],[],[]⟩
noncomputable def RR:Kont U El:=fun st=>normK nmR st (retFin [2] [])
noncomputable def nm1:Norm U:=⟨[],[1,3],[1],[],[],[],[(1,0,.spot),(1,1,.face)]⟩
noncomputable def nm2:Norm U:=⟨[],[1,3,4],[1],[],[],[],[(1,0,.spot),(1,1,.face)]⟩
noncomputable def nm3:Norm U:=⟨[],[3],[],[],[],[],[]⟩
noncomputable def nm4:Norm U:=⟨[],[1,3,5],[1],[],[],[],[(1,0,.spot),(1,1,.face)]⟩
abbrev Y1:=(List UInt8)→(List Spot)→(List Face)→R
abbrev Y2:=(List UInt8)→Int→(List Spot)→(List Face)→R
abbrev Y3:=(List UInt8)→R
abbrev Y4:=(List UInt8)→Int→(List Spot)→(List Face)→R
noncomputable def fr0 (m:Mesh):St U El:=⟨[(0,(.agg [(.lst .spot m.ms),(.lst .face m.mf)]))],[]⟩
noncomputable def fr1 (bA:List UInt8) (cA:List Spot) (aA:List Face):St U El:=⟨[(1,(.ptr 1 0)),(3,(.str bA))],[(1,(.box 0 [(.lst .spot cA),(.lst .face aA)]))]⟩
noncomputable def fr2 (bA:List UInt8) (i4:Int) (cA:List Spot) (aA:List Face):St U El:=⟨[(1,(.ptr 1 0)),(3,(.str bA)),(4,(.int .i64 i4))],[(1,(.box 0 [(.lst .spot cA),(.lst .face aA)]))]⟩
noncomputable def fr3 (bA:List UInt8):St U El:=⟨[(3,(.str bA))],[]⟩
noncomputable def fr4 (bA:List UInt8) (i5:Int) (cA:List Spot) (aA:List Face):St U El:=⟨[(1,(.ptr 1 0)),(3,(.str bA)),(5,(.int .i64 i5))],[(1,(.box 0 [(.lst .spot cA),(.lst .face aA)]))]⟩
noncomputable def sh0 (m:Mesh) (k2:Y2):R :=
  k2 ([]:List UInt8) (0:Int) m.ms m.mf
noncomputable def sh1 (bA:List UInt8) (cA:List Spot) (aA:List Face) (k4:Y4):R :=
  k4 bA (0:Int) cA aA
noncomputable def sh2 (bA:List UInt8) (i4:Int) (cA:List Spot) (aA:List Face) (k1:Y1) (k2:Y2):R :=
  condB (ilt i4 (Int.ofNat (List.length cA))) (chk (nle (List.length bA+List.length ([115,112,111,116]:List UInt8)) 9223372036854775807) (chk (inb i4 (List.length cA)) (chk (inb i4 (List.length cA)) (chk (inb i4 (List.length cA)) (chk ((nle (List.length ([(List.getD cA (Int.toNat i4) d_spot).px,(List.getD cA (Int.toNat i4) d_spot).py,(List.getD cA (Int.toNat i4) d_spot).pz]:List Int)) 1000&&List.all ([(List.getD cA (Int.toNat i4) d_spot).px,(List.getD cA (Int.toNat i4) d_spot).py,(List.getD cA (Int.toNat i4) d_spot).pz]:List Int) i60)) (chk (nle (List.length (bA++([115,112,111,116]:List UInt8))+List.length (numsS ([(List.getD cA (Int.toNat i4) d_spot).px,(List.getD cA (Int.toNat i4) d_spot).py,(List.getD cA (Int.toNat i4) d_spot).pz]:List Int))) 9223372036854775807) (chk (nle (List.length ((bA++([115,112,111,116]:List UInt8))++(numsS ([(List.getD cA (Int.toNat i4) d_spot).px,(List.getD cA (Int.toNat i4) d_spot).py,(List.getD cA (Int.toNat i4) d_spot).pz]:List Int)))+List.length ([10]:List UInt8)) 9223372036854775807) (k2 (((bA++([115,112,111,116]:List UInt8))++(numsS ([(List.getD cA (Int.toNat i4) d_spot).px,(List.getD cA (Int.toNat i4) d_spot).py,(List.getD cA (Int.toNat i4) d_spot).pz]:List Int)))++([10]:List UInt8)) (IntKind.wrap .i64 (i4+(1:Int))) cA aA)))))))) (k1 bA cA aA)
noncomputable def sh3 (bA:List UInt8):R :=
  some ((.str bA),[])
noncomputable def sh4 (bA:List UInt8) (i5:Int) (cA:List Spot) (aA:List Face) (k3:Y3) (k4:Y4):R :=
  condB (ilt i5 (Int.ofNat (List.length aA))) (chk (nle (List.length bA+List.length ([102,97,99,101]:List UInt8)) 9223372036854775807) (chk (inb i5 (List.length aA)) (chk (inb i5 (List.length aA)) (chk (inb i5 (List.length aA)) (chk (inb i5 (List.length aA)) (chk ((nle (List.length ([(List.getD aA (Int.toNat i5) d_face).fa,(List.getD aA (Int.toNat i5) d_face).fb,(List.getD aA (Int.toNat i5) d_face).fc,(List.getD aA (Int.toNat i5) d_face).fk]:List Int)) 1000&&List.all ([(List.getD aA (Int.toNat i5) d_face).fa,(List.getD aA (Int.toNat i5) d_face).fb,(List.getD aA (Int.toNat i5) d_face).fc,(List.getD aA (Int.toNat i5) d_face).fk]:List Int) i60)) (chk (nle (List.length (bA++([102,97,99,101]:List UInt8))+List.length (numsS ([(List.getD aA (Int.toNat i5) d_face).fa,(List.getD aA (Int.toNat i5) d_face).fb,(List.getD aA (Int.toNat i5) d_face).fc,(List.getD aA (Int.toNat i5) d_face).fk]:List Int))) 9223372036854775807) (chk (nle (List.length ((bA++([102,97,99,101]:List UInt8))++(numsS ([(List.getD aA (Int.toNat i5) d_face).fa,(List.getD aA (Int.toNat i5) d_face).fb,(List.getD aA (Int.toNat i5) d_face).fc,(List.getD aA (Int.toNat i5) d_face).fk]:List Int)))+List.length ([10]:List UInt8)) 9223372036854775807) (k4 (((bA++([102,97,99,101]:List UInt8))++(numsS ([(List.getD aA (Int.toNat i5) d_face).fa,(List.getD aA (Int.toNat i5) d_face).fb,(List.getD aA (Int.toNat i5) d_face).fc,(List.getD aA (Int.toNat i5) d_face).fk]:List Int)))++([10]:List UInt8)) (IntKind.wrap .i64 (i5+(1:Int))) cA aA))))))))) (k3 bA)
noncomputable def it2 (Kb1:Kont U El) (n:Nat):Kont U El:=iter nm2 (fun st' K'=>exec X (cdp [1,1,0,1,0,0] bd) .d st' K' (Eblk 0 (cutK nm1 Kb1) (fun _ _=>none)) RR) n
noncomputable def it4 (Kb3:Kont U El) (n:Nat):Kont U El:=iter nm4 (fun st' K'=>exec X (cdp [1,1,1,0,1,0,0] bd) .d st' K' (Eblk 2 (cutK nm3 Kb3) (fun _ _=>none)) RR) n
noncomputable def ct1:Kont U El:=fun st=>exec X (cdp [1,1,1] bd) (.seq (some nm3) (.seq none .d (.block (.loop nm4 .d))) .d) st RR (fun _ _=>none) RR
noncomputable def ct3:Kont U El:=fun st=>exec X (cdp [1,1,1,1] bd) .d st RR (fun _ _=>none) RR
theorem P0 (m):exec X (cdp [] bd) (.seq none .d (.seq none .d (.seq (some nm1) (.seq none .d (.block (.loop nm2 .d))) (.seq (some nm3) (.seq none .d (.block (.loop nm4 .d))) .d)))) (fr0 m) RR (fun _ _=>none) RR=sh0 m (fun y0 y1 y2 y3=>(hid (it2 (hid ct1) 100000)) (fr2 y0 y1 y2 y3)):=by kernel_rfl
theorem P1 (bA cA aA):ct1 (fr1 bA cA aA)=sh1 bA cA aA (fun y0 y1 y2 y3=>(hid (it4 (hid ct3) 100000)) (fr4 y0 y1 y2 y3)):=by kernel_rfl
theorem P2 (bA i4 cA aA) (Kb1 Kb2:Kont U El):exec X (cdp [1,1,0,1,0,0] bd) .d (fr2 bA i4 cA aA) (cutK nm2 Kb2) (Eblk 0 (cutK nm1 Kb1) (fun _ _=>none)) RR=sh2 bA i4 cA aA (fun y0 y1 y2=>Kb1 (fr1 y0 y1 y2)) (fun y0 y1 y2 y3=>Kb2 (fr2 y0 y1 y2 y3)):=by kernel_rfl
theorem P3 (bA):ct3 (fr3 bA)=sh3 bA:=by kernel_rfl
theorem P4 (bA i5 cA aA) (Kb3 Kb4:Kont U El):exec X (cdp [1,1,1,0,1,0,0] bd) .d (fr4 bA i5 cA aA) (cutK nm4 Kb4) (Eblk 2 (cutK nm3 Kb3) (fun _ _=>none)) RR=sh4 bA i5 cA aA (fun y0=>Kb3 (fr3 y0)) (fun y0 y1 y2 y3=>Kb4 (fr4 y0 y1 y2 y3)):=by kernel_rfl
noncomputable def f3 (bA:List UInt8):R:=sh3 bA
noncomputable def f4:Nat→Y4
  | 0=>fun _ _ _ _=>none
  | n+1=>fun bA i5 cA aA=>sh4 bA i5 cA aA f3 (f4 n)
noncomputable def f1 (bA:List UInt8) (cA:List Spot) (aA:List Face):R:=sh1 bA cA aA (f4 100000)
noncomputable def f2:Nat→Y2
  | 0=>fun _ _ _ _=>none
  | n+1=>fun bA i4 cA aA=>sh2 bA i4 cA aA f1 (f2 n)
noncomputable def f0 (m:Mesh):R:=sh0 m (f2 100000)
theorem T3 (bA):(hid ct3) (fr3 bA)=f3 bA:=by
  refine (congrFun (hid_eq _) _).trans <| (P3 bA).trans ?_
  show _=sh3 bA
  rfl
theorem T4:∀ (n:Nat),∀ bA i5 cA aA,it4 (hid ct3) n (fr4 bA i5 cA aA)=f4 n bA i5 cA aA:=by
  intro n
  induction n with
  | zero=>intros; rfl
  | succ n ih =>
    intro bA i5 cA aA
    refine (P4 bA i5 cA aA (hid ct3) (it4 (hid ct3) n)).trans ?_
    show _=sh4 bA i5 cA aA f3 (f4 n)
    simp only [T3,ih]
theorem H4 (bA i5 cA aA):hid (it4 (hid ct3) 100000) (fr4 bA i5 cA aA)=f4 100000 bA i5 cA aA:=(congrFun (hid_eq _) _).trans (T4 100000 bA i5 cA aA)
theorem T1 (bA cA aA):(hid ct1) (fr1 bA cA aA)=f1 bA cA aA:=by
  refine (congrFun (hid_eq _) _).trans <| (P1 bA cA aA).trans ?_
  show _=sh1 bA cA aA (f4 100000)
  simp only [H4]
theorem T2:∀ (n:Nat),∀ bA i4 cA aA,it2 (hid ct1) n (fr2 bA i4 cA aA)=f2 n bA i4 cA aA:=by
  intro n
  induction n with
  | zero=>intros; rfl
  | succ n ih =>
    intro bA i4 cA aA
    refine (P2 bA i4 cA aA (hid ct1) (it2 (hid ct1) n)).trans ?_
    show _=sh2 bA i4 cA aA f1 (f2 n)
    simp only [T1,ih]
theorem H2 (bA i4 cA aA):hid (it2 (hid ct1) 100000) (fr2 bA i4 cA aA)=f2 100000 bA i4 cA aA:=(congrFun (hid_eq _) _).trans (T2 100000 bA i4 cA aA)
theorem T0 (m):exec X bd (.seq none .d (.seq none .d (.seq (some nm1) (.seq none .d (.block (.loop nm2 .d))) (.seq (some nm3) (.seq none .d (.block (.loop nm4 .d))) .d)))) (fr0 m) RR (fun _ _=>none) RR=f0 m:=by
  refine (P0 m).trans ?_
  show _=sh0 m (f2 100000)
  simp only [H2]
theorem run (m):runFn X bd (.seq none .d (.seq none .d (.seq (some nm1) (.seq none .d (.block (.loop nm2 .d))) (.seq (some nm3) (.seq none .d (.block (.loop nm4 .d))) .d)))) nmR [2] [] [(.agg [(.lst .spot m.ms),(.lst .face m.mf)])]=f0 m:=T0 m
theorem sm_all {ns:List Int} (h:∀ n∈ns,smI n=true):List.all ns i60=true:=List.all_eq_true.2 fun n hn=>sm_60 (h n hn)
theorem facesL (l:List Face) (x:List Spot) (hl:l.length≤4000) (hsm:∀ f∈l,∀ n∈fcN f,smI n=true):∀ (k i:Nat) (buf:List UInt8),l.length < k+i→i≤l.length→buf.length≤300000+100 * i→f4 k buf (i:Int) x l=some ((.str (buf++textF (l.drop i))),[]):=by
  intro k
  induction k with
  | zero=>intro i buf h1 h2; omega
  | succ k ih =>
    intro i buf h1 h2 h3
    show sh4 buf (i:Int) x l f3 (f4 k)=_
    unfold sh4
    by_cases hi:i < l.length
    · have hs := hsm _ (List.getElem_mem hi)
      have hn:=numsS_len (fcN l[i]) fun n hn=>by have:=sm_iff.1 (hs n hn); omega
      have hnl:(fcN l[i]).length=4:=rfl
      rw [hnl] at hn
      rw [iltT (by simp; omega),condT,toNat_nat,getD_lt hi,show ([(l[i]).fa,(l[i]).fb,(l[i]).fc,(l[i]).fk]:List Int)=fcN l[i] from rfl,sm_all hs,nleT (show (fcN l[i]).length≤1000 by rw [hnl]; omega),inbT hi,nleT (by simp; omega),nleT (by simp; omega),nleT (by simp; omega),Bool.and_self]
      simp only [chkT]
      rw [wrapS i (by omega),ih (i+1) _ (by omega) hi (by simp; omega),drop_lt hi]
      simp only [textF,lineS,List.append_assoc]
      rfl
    · have : i = l.length := by omega
      subst this
      rw [iltF (by simp),condF,List.drop_length]
      simp only [textF,List.append_nil]
      rfl
theorem spotsL (m:Mesh) (hm:m.mf.length≤4000) (hf:∀ f∈m.mf,∀ n∈fcN f,smI n=true) (hl:m.ms.length≤2000) (hsm:∀ f∈m.ms,∀ n∈spoN f,smI n=true):∀ (k i:Nat) (buf:List UInt8),m.ms.length < k+i→i≤m.ms.length→buf.length≤100 * i→f2 k buf (i:Int) m.ms m.mf=some ((.str (buf++(textS (m.ms.drop i)++textF m.mf))),[]):=by
  intro k
  induction k with
  | zero=>intro i buf h1 h2; omega
  | succ k ih =>
    intro i buf h1 h2 h3
    show sh2 buf (i:Int) m.ms m.mf f1 (f2 k)=_
    unfold sh2
    by_cases hi:i < m.ms.length
    · have hs := hsm _ (List.getElem_mem hi)
      have hn:=numsS_len (spoN m.ms[i]) fun n hn=>by have:=sm_iff.1 (hs n hn); omega
      have hnl:(spoN m.ms[i]).length=3:=rfl
      rw [hnl] at hn
      rw [iltT (by simp; omega),condT,toNat_nat,getD_lt hi,show ([(m.ms[i]).px,(m.ms[i]).py,(m.ms[i]).pz]:List Int)=spoN m.ms[i] from rfl,sm_all hs,nleT (show (spoN m.ms[i]).length≤1000 by rw [hnl]; omega),inbT hi,nleT (by simp; omega),nleT (by simp; omega),nleT (by simp; omega),Bool.and_self]
      simp only [chkT]
      rw [wrapS i (by omega),ih (i+1) _ (by omega) hi (by simp; omega),drop_lt hi]
      simp only [textS,lineS,List.append_assoc]
      rfl
    · have : i = m.ms.length := by omega
      subst this
      rw [iltF (by simp),condF,List.drop_length]
      show f4 100000 buf ((0:Nat):Int) m.ms m.mf=_
      rw [facesL m.mf m.ms hm hf 100000 0 buf (by omega) (by omega) (by omega),List.drop_zero]
      rfl
theorem f0_eq (m:Mesh) (h:validM m=true):f0 m=some ((.str (textM m)),[]):=by
  have hs:=valid_small h
  obtain ⟨v1,v2⟩:=valid_sm h
  show f2 100000 [] ((0:Nat):Int) m.ms m.mf=_
  rw [spotsL m hs.2 v2 hs.1 v1 100000 0 [] (by omega) (by omega) (by simp),List.drop_zero]
  rfl
theorem ok:CtxOk Tryz.prog X:=ctxOk tab (spC rnums.spOk spN) dpN
theorem okM:MOk Tryz.prog X:=fun g sp h=>by cases h
theorem spec (m:Mesh) (h:(validM m)=true):CallSpec Tryz.prog E 15 [(.agg [(.lst .spot m.ms),(.lst .face m.mf)])] (.str (textM m)) [] :=
  runFn_sound ok okM Tryz.call15 Tryz.func15 (by kernel_rfl) (by kernel_rfl) (by kernel_rfl) (by show 1≤75; decide) (by decide) (by rfl) ((run m).trans (f0_eq m h))
noncomputable def sp:Sp U El:=fun args k=>match args with
  | [.agg [.lst .spot m_ms,.lst .face m_mf]]=>chk (validM (⟨m_ms,m_mf⟩:Mesh)) (k (.str (textM (⟨m_ms,m_mf⟩:Mesh))) [])
  | _=>none
theorem spOk:SpOk Tryz.prog E 15 sp where
  det:=fun vs=>by
    unfold sp
    split
    · exact det_c _ _ _
    · exact ⟨none,fun _=>rfl⟩
  ok:=fun vs k r h=>by
    unfold sp at h
    split at h
    · obtain ⟨h1, h2⟩ := chk_some h
      exact ⟨_,_,spec ⟨_,_⟩ h1,h2⟩
    · cases h
end rtext
end Go.Proofs.YtnofdcckddfooaaGreatDoor
