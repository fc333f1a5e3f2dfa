/- A surface is read from its text; the law SurveyTexts. -/
import Derived.Test.YtnofdcckddfooaaGreatDoorTX
import Derived.Test.YtnofdcckddfooaaGreatDoorRC
import Derived.Test.YtnofdcckddfooaaGreatDoorVC
import Derived.Test.YtnofdcckddfooaaGreatDoorAW
namespace Go.Proofs.YtnofdcckddfooaaGreatDoor
set_option linter.unusedSectionVars false
set_option linter.unusedSimpArgs false
set_option linter.unusedVariables false
set_option maxRecDepth 100000
theorem split_nums:∀ (ns:List Int) (n:Int),splitL (Lib.itoa n++numsS ns) [32]=Lib.itoa n :: ns.map Lib.itoa:=by
  intro ns
  induction ns with
  | nil =>
    intro n
    simp only [numsS,List.append_nil,List.map_nil]
    exact splitL_none 32 _ (itoa_not n 32 (by decide) (by decide))
  | cons m ns ih =>
    intro n
    have e:Lib.itoa n++numsS (m :: ns)=Lib.itoa n++(32 :: (Lib.itoa m++numsS ns)):=by
      simp only [numsS,List.append_assoc]
      rfl
    rw [e,splitL_cons 32 _ _ (itoa_not n 32 (by decide) (by decide)),ih m]
    rfl
theorem nums_itoa:∀ ns:List Int,(∀ n∈ns,fitsP n)→nums (ns.map Lib.itoa)=some ns:=by
  intro ns
  induction ns with
  | nil=>intro _; rfl
  | cons n ns ih =>
    intro h
    have h1:numO (Lib.itoa n)=some n:=numO_some.2 ⟨h n (List.mem_cons_self ..),rfl⟩
    simp only [List.map_cons,nums,h1,ih fun x hx=>h x (List.mem_cons_of_mem _ hx)]
theorem sm_fits {n:Int} (h:smI n=true):fitsP n:=by
  have:=sm_iff.1 h
  unfold fitsP
  omega
theorem line_split (w:List UInt8) (n:Int) (ns:List Int) (hw:(32:UInt8) ∉ w):splitL (w++numsS (n :: ns)) [32]=w :: Lib.itoa n :: ns.map Lib.itoa:=by
  have e:w++numsS (n :: ns)=w++(32 :: (Lib.itoa n++numsS ns)):=by
    simp only [numsS,List.append_assoc]
    rfl
  rw [e,splitL_cons 32 w _ hw,split_nums]
theorem line_yes (w:List UInt8) (n:Int) (ns:List Int) (hw:(32:UInt8) ∉ w) (h:∀ x∈n :: ns,smI x=true):lineO w (w++numsS (n :: ns))=some (n :: ns):=by
  unfold lineO
  rw [line_split w n ns hw]
  have:=nums_itoa (n :: ns) fun x hx=>sm_fits (h x hx)
  simp only [beq_self_eq_true,List.isEmpty_cons,Bool.not_false,Bool.and_self,cond_true]
  exact this
theorem line_no (w v:List UInt8) (n:Int) (ns:List Int) (hw:(32:UInt8) ∉ w) (hne:(w == v)=false):lineO v (w++numsS (n :: ns))=none:=by
  unfold lineO
  rw [line_split w n ns hw]
  simp only [hne,Bool.false_and]
  rfl
theorem nums_no10:∀ ns:List Int,(10:UInt8) ∉ numsS ns:=by
  intro ns
  induction ns with
  | nil=>simp [numsS]
  | cons n ns ih =>
    simp only [numsS,List.mem_append,not_or]
    exact ⟨⟨by decide,itoa_not n 10 (by decide) (by decide)⟩,ih⟩
theorem cut_at (x r:List UInt8) (h:(10:UInt8) ∉ x):Lib.cut (x++10 :: r) ([10]:List UInt8)=(x,r,true):=by
  have hi:Lib.index (x++(10 :: r)) [10]=(x.length:Int):=index_mid 10 [] r x h
  unfold Lib.cut
  rw [hi,if_pos (by omega),toNat_nat]
  refine Prod.ext ?_ (Prod.ext ?_ rfl)
  · simp
  · show List.drop (x.length + ([10] : List UInt8).length) (x ++ 10 :: r) = r
    rw [show x++10 :: r=(x++[10])++r by simp,List.drop_append_of_le_length (by simp)]
    simp
theorem line_eq (w:List UInt8) (ns:List Int) (r:List UInt8):lineS w ns++r=(w++numsS ns)++10 :: r:=by
  unfold lineS
  rw [List.append_assoc]
  rfl
theorem par_line (k:Nat) (w:List UInt8) (ns:List Int) (r:List UInt8) (i:Int) (a:List Spot) (b:List Face) (hw:(10:UInt8) ∉ w) (h:addB a b (w++numsS ns)=true):parG (k+1) (lineS w ns++r) i a b=parG k r (i+1) (addS a b (w++numsS ns)) (addF a b (w++numsS ns)):=by
  have hc:=cut_at (w++numsS ns) r (by rw [List.mem_append,not_or]; exact ⟨hw,nums_no10 ns⟩)
  have hne:((w++numsS ns)++10 :: r == ([]:List UInt8))=false:=beq_eq_false_iff_ne.2 (by simp)
  rw [line_eq]
  simp only [parG]
  rw [hne,hc,cond_false,cond_true,h,cond_true]
theorem par_spots:∀ (l:List Spot) (k:Nat) (t:List UInt8) (i:Int) (a:List Spot),(∀ s∈l,∀ n∈spoN s,smI n=true)→parG (k+l.length) (textS l++t) i a []=parG k t (i+l.length) (a++l) []:=by
  intro l
  induction l with
  | nil=>intro k t i a _; simp [textS]
  | cons s l ih =>
    intro k t i a h
    have hL:lineO wSpot (wSpot++numsS (spoN s))=some (spoN s):=line_yes wSpot s.px [s.py,s.pz] (by decide) (h s (List.mem_cons_self ..))
    have hn:numB wSpot (wSpot++numsS (spoN s)) 3=true:=(num_yes hL rfl).1
    have hr:rdL wSpot (wSpot++numsS (spoN s))=spoN s:=by unfold rdL; rw [hL]; rfl
    have hi:isSp [] (wSpot++numsS (spoN s))=true:=by unfold isSp; rw [hn]; rfl
    have e1:addB a [] (wSpot++numsS (spoN s))=true:=by unfold addB; rw [hi]; rfl
    have e2:addS a [] (wSpot++numsS (spoN s))=a++[s]:=by unfold addS; rw [hi,hr]; rfl
    have e3:addF a [] (wSpot++numsS (spoN s))=[]:=by unfold addF; rw [hi]; rfl
    show parG (k+l.length+1) ((lineS wSpot (spoN s)++textS l)++t) i a []=_
    rw [List.append_assoc,par_line (k+l.length) wSpot (spoN s) _ i a [] (by decide) e1,e2,e3,ih k t (i+1) (a++[s]) fun x hx=>h x (List.mem_cons_of_mem _ hx)]
    rw [List.append_assoc,show i+1+((l.length:Nat):Int)=i+(((s :: l).length:Nat):Int) by simp; omega]
    rfl
theorem par_faces:∀ (l:List Face) (k:Nat) (i:Int) (a:List Spot) (b:List Face),(∀ f∈l,∀ n∈fcN f,smI n=true)→parG (k+1+l.length) (textF l) i a b=finP a (b++l):=by
  intro l
  induction l with
  | nil=>intro k i a b _; simp [textF,parG]
  | cons f l ih =>
    intro k i a b h
    have hL:lineO wFace (wFace++numsS (fcN f))=some (fcN f):=line_yes wFace f.fa [f.fb,f.fc,f.fk] (by decide) (h f (List.mem_cons_self ..))
    have hN:lineO wSpot (wFace++numsS (fcN f))=none:=line_no wFace wSpot f.fa [f.fb,f.fc,f.fk] (by decide) (by decide)
    have hn:numB wFace (wFace++numsS (fcN f)) 4=true:=(num_yes hL rfl).1
    have hr:rdL wFace (wFace++numsS (fcN f))=fcN f:=by unfold rdL; rw [hL]; rfl
    have hi:isSp b (wFace++numsS (fcN f))=false:=by unfold isSp; rw [(num_none hN).1]; rfl
    have e1:addB a b (wFace++numsS (fcN f))=true:=by unfold addB; rw [hi,hn]; rfl
    have e2:addS a b (wFace++numsS (fcN f))=a:=by unfold addS; rw [hi]; rfl
    have e3:addF a b (wFace++numsS (fcN f))=b++[f]:=by unfold addF; rw [hi,hn,hr]; rfl
    show parG (k+1+l.length+1) (lineS wFace (fcN f)++textF l) i a b=_
    rw [par_line (k+1+l.length) wFace (fcN f) _ i a b (by decide) e1,e2,e3,ih k (i+1) a (b++[f]) fun x hx=>h x (List.mem_cons_of_mem _ hx),List.append_assoc]
    rfl
theorem textS_len:∀ l:List Spot,(∀ s∈l,∀ n∈spoN s,smI n=true)→(textS l).length≤100 * l.length:=by
  intro l
  induction l with
  | nil=>intro _; simp [textS]
  | cons s l ih =>
    intro h
    have h1:(lineS wSpot (spoN s)).length≤100:=line_len (h s (List.mem_cons_self ..)) (by simp [spoN]) (by simp)
    have h2:=ih fun x hx=>h x (List.mem_cons_of_mem _ hx)
    simp only [textS,List.length_append,List.length_cons]
    omega
theorem textF_len:∀ l:List Face,(∀ s∈l,∀ n∈fcN s,smI n=true)→(textF l).length≤100 * l.length:=by
  intro l
  induction l with
  | nil=>intro _; simp [textF]
  | cons s l ih =>
    intro h
    have h1:(lineS wFace (fcN s)).length≤100:=line_len (h s (List.mem_cons_self ..)) (by simp [fcN]) (by simp)
    have h2:=ih fun x hx=>h x (List.mem_cons_of_mem _ hx)
    simp only [textF,List.length_append,List.length_cons]
    omega
theorem text_len {m:Mesh} (hv:validM m=true):(textM m).length≤100 * m.ms.length+100 * m.mf.length:=by
  obtain ⟨v1,v2⟩:=valid_sm hv
  have h1:=textS_len m.ms v1
  have h2:=textF_len m.mf v2
  unfold textM
  rw [List.length_append]
  omega
theorem round {m:Mesh} (hv:validM m=true) (h1:m.ms.length≤400) (h2:m.mf.length≤400):parT (textM m)=(m,⟨0,0⟩,0):=by
  obtain ⟨v1,v2⟩:=valid_sm hv
  have hl:=text_len hv
  unfold parT
  rw [iltF (by simp; omega),cond_false]
  unfold textM
  obtain ⟨K,hK⟩:∃ K,100000=(K+1+m.mf.length)+m.ms.length:=⟨99999 - m.mf.length - m.ms.length,by omega⟩
  rw [hK,par_spots m.ms (K+1+m.mf.length) (textF m.mf) 1 [] v1,List.nil_append,par_faces m.mf K _ m.ms [] v2,List.nil_append]
  unfold finP
  rw [show validM (⟨m.ms,m.mf⟩:Mesh)=true from hv]
  rfl
theorem finP_size (a:List Spot) (b:List Face) (ha:a.length≤90000) (hb:b.length≤90000):sizeOk (finP a b).1=true:=by
  unfold finP
  cases validM (⟨a,b⟩:Mesh) with
  | true=>exact fin_size a b ha hb
  | false=>rfl
theorem par_size : ∀ (k : Nat) (s : List UInt8) (i : Int) (a : List Spot) (b : List Face), a.length + s.length ≤ 90000 → b.length + s.length ≤ 90000 → sizeOk (parG k s i a b).1 = true := by
  intro k
  induction k with
  | zero=>intro s i a b _ _; rfl
  | succ k ih =>
    intro s i a b h1 h2
    simp only [parG]
    cases hs:s == ([]:List UInt8) with
    | true=>exact finP_size a b (by omega) (by omega)
    | false =>
      rw [cond_false]
      cases hc:(Lib.cut s ([10]:List UInt8)).2.2 with
      | false=>rfl
      | true =>
        obtain ⟨x,r,_,e1,e2⟩:=cut_line s hc
        have hl:s.length=x.length+1+r.length:=by rw [e1]; simp; omega
        rw [e2,cond_true]
        obtain ⟨g1,g2⟩:=add_len a b x
        cases addB a b x with
        | false=>rfl
        | true =>
          show sizeOk (parG k r (i+1) (addS a b x) (addF a b x)).1=true
          exact ih r _ _ _ (by omega) (by omega)
namespace lawTexts
noncomputable def bd:Code:=(Tryz.f3.body).getD .skip
noncomputable def X:Ctx U El:=⟨E,tds,zeros,eqs,specOf [(8,awake.sp),(9,large.sp),(10,parse.sp),(11,rparse.sp),(12,rsame.sp),(13,text.sp),(14,rvalid.sp),(15,rtext.sp)],100000,103,dspecOf [],fun _=>none⟩
noncomputable def nmR:Norm U:=⟨[],[4],[],[],[],[],[]⟩
noncomputable def RR:Kont U El:=fun st=>normK nmR st (retFin [4] [])
noncomputable def nm1:Norm U:=⟨[],[1,2],[2],[],[],[],[(2,0,.spot),(2,1,.face)]⟩
noncomputable def nm2:Norm U:=⟨[],[2],[2],[],[],[],[(2,0,.spot),(2,1,.face)]⟩
abbrev Y1:=(List UInt8)→(List Spot)→(List Face)→R
abbrev Y2:=(List Spot)→(List Face)→R
noncomputable def fr0 (m:Mesh) (s:List UInt8):St U El:=⟨[(0,(.agg [(.lst .spot m.ms),(.lst .face m.mf)])),(1,(.str s))],[]⟩
noncomputable def fr1 (s1:List UInt8) (aA:List Spot) (bA:List Face):St U El:=⟨[(1,(.str s1)),(2,(.ptr 2 0))],[(2,(.box 0 [(.lst .spot aA),(.lst .face bA)]))]⟩
noncomputable def fr2 (aA:List Spot) (bA:List Face):St U El:=⟨[(2,(.ptr 2 0))],[(2,(.box 0 [(.lst .spot aA),(.lst .face bA)]))]⟩
noncomputable def sh0 (m:Mesh) (s:List UInt8) (k1:Y1):R :=
  condB (!(true)) (some ((.bool false),[])) (condB (largeB m) (some ((.bool true),[])) (condB (ilt (2000:Int) (Int.ofNat (List.length s))) (condB (ile (Int.ofNat (List.length s)) (262144:Int)) (some ((.bool true),[])) (condB (ilt (262244:Int) (Int.ofNat (List.length s))) (some ((.bool true),[])) (k1 s m.ms m.mf))) (condB (ilt (262244:Int) (Int.ofNat (List.length s))) (some ((.bool true),[])) (k1 s m.ms m.mf))))
noncomputable def sh1 (s1:List UInt8) (aA:List Spot) (bA:List Face) (k2:Y2):R :=
  chk ((nle (List.length s1) 300000&&(nle (List.length s1) 90000||nlt 262144 (List.length s1)))) (chk ((nle (List.length s1) 300000&&(nle (List.length s1) 90000||nlt 262144 (List.length s1)))) (chk ((sizeOk (parM s1)&&sizeOk (parM s1))) (condB (!(sameM (parM s1) (parM s1))) (some ((.bool false),[])) (condB (!(((parP s1).pl == (parP s1).pl)&&(((parP s1).pc == (parP s1).pc)&&true))) (some ((.bool false),[])) (condB ((parE s1) != (parE s1)) (some ((.bool false),[])) (k2 aA bA))))))
noncomputable def sh2 (aA:List Spot) (bA:List Face):R :=
  chk (sizeOk (⟨aA,bA⟩:Mesh)) (chk (sizeOk (⟨aA,bA⟩:Mesh)) (condB (!(validM (⟨aA,bA⟩:Mesh))) (condB ((textV (⟨aA,bA⟩:Mesh)) == ([]:List UInt8)) (some ((.bool ((argE (⟨aA,bA⟩:Mesh)) == (1:Int))),[])) (some ((.bool false),[]))) (chk ((nle (List.length (textV (⟨aA,bA⟩:Mesh))) 300000&&(nle (List.length (textV (⟨aA,bA⟩:Mesh))) 90000||nlt 262144 (List.length (textV (⟨aA,bA⟩:Mesh)))))) (condB ((argE (⟨aA,bA⟩:Mesh)) == (0:Int)) (chk (validM (⟨aA,bA⟩:Mesh)) (condB ((textV (⟨aA,bA⟩:Mesh)) == (textM (⟨aA,bA⟩:Mesh))) (condB ((parE (textV (⟨aA,bA⟩:Mesh))) == (0:Int)) (condB (((parP (textV (⟨aA,bA⟩:Mesh))).pl == (0:Int))&&(((parP (textV (⟨aA,bA⟩:Mesh))).pc == (0:Int))&&true)) (chk ((sizeOk (parM (textV (⟨aA,bA⟩:Mesh)))&&sizeOk (⟨aA,bA⟩:Mesh))) (some ((.bool (sameM (parM (textV (⟨aA,bA⟩:Mesh))) (⟨aA,bA⟩:Mesh))),[]))) (some ((.bool false),[]))) (some ((.bool false),[]))) (some ((.bool false),[])))) (some ((.bool false),[]))))))
noncomputable def ct1:Kont U El:=fun st=>exec X (cdp [1,1,1] bd) (.seq none .d (.seq none .d (.seq (some nm2) .d .d))) st RR (fun _ _=>none) RR
noncomputable def ct2:Kont U El:=fun st=>exec X (cdp [1,1,1,1,1,1] bd) .d st RR (fun _ _=>none) RR
theorem P0 (m s):exec X (cdp [] bd) (.seq none .d (.seq none .d (.seq (some nm1) .d (.seq none .d (.seq none .d (.seq (some nm2) .d .d)))))) (fr0 m s) RR (fun _ _=>none) RR=sh0 m s (fun y0 y1 y2=>(hid ct1) (fr1 y0 y1 y2)):=by kernel_rfl
theorem P1 (s1 aA bA):ct1 (fr1 s1 aA bA)=sh1 s1 aA bA (fun y0 y1=>(hid ct2) (fr2 y0 y1)):=by kernel_rfl
theorem P2 (aA bA):ct2 (fr2 aA bA)=sh2 aA bA:=by kernel_rfl
noncomputable def f2 (aA:List Spot) (bA:List Face):R:=sh2 aA bA
noncomputable def f1 (s1:List UInt8) (aA:List Spot) (bA:List Face):R:=sh1 s1 aA bA f2
noncomputable def f0 (m:Mesh) (s:List UInt8):R:=sh0 m s f1
theorem T2 (aA bA):(hid ct2) (fr2 aA bA)=f2 aA bA:=by
  refine (congrFun (hid_eq _) _).trans <| (P2 aA bA).trans ?_
  show _=sh2 aA bA
  rfl
theorem T1 (s1 aA bA):(hid ct1) (fr1 s1 aA bA)=f1 s1 aA bA:=by
  refine (congrFun (hid_eq _) _).trans <| (P1 s1 aA bA).trans ?_
  show _=sh1 s1 aA bA f2
  simp only [T2]
theorem T0 (m s):exec X bd (.seq none .d (.seq none .d (.seq (some nm1) .d (.seq none .d (.seq none .d (.seq (some nm2) .d .d)))))) (fr0 m s) RR (fun _ _=>none) RR=f0 m s:=by
  refine (P0 m s).trans ?_
  show _=sh0 m s f1
  simp only [T1]
theorem run (m s):runFn X bd (.seq none .d (.seq none .d (.seq (some nm1) .d (.seq none .d (.seq none .d (.seq (some nm2) .d .d)))))) nmR [4] [] [(.agg [(.lst .spot m.ms),(.lst .face m.mf)]),(.str s)]=f0 m s:=T0 m s
theorem tail (m : Mesh) (hl : largeB m = false) : f2 m.ms m.mf = outB true := by
  have hz:=large_size hl
  show sh2 m.ms m.mf=_
  unfold sh2
  rw [show sizeOk (⟨m.ms,m.mf⟩:Mesh)=true from hz,chkT,chkT,show validM (⟨m.ms,m.mf⟩:Mesh)=validM m from rfl,show textV (⟨m.ms,m.mf⟩:Mesh)=textV m from rfl,show textM (⟨m.ms,m.mf⟩:Mesh)=textM m from rfl,show argE (⟨m.ms,m.mf⟩:Mesh)=argE m from rfl]
  cases hv:validM m with
  | false =>
    have e1:textV m=[]:=by unfold textV; rw [hv]; rfl
    have e2:argE m=1:=by unfold argE; rw [hv]; rfl
    rw [e1,e2]
    rfl
  | true =>
    have hs:=valid_small hv
    have hlen:m.ms.length≤400∧m.mf.length≤400:=by
      simp only [largeB,Bool.or_eq_false_iff,Bool.and_eq_false_iff] at hl
      have h1:m.ms.length≤40:=by
        rcases hl.1 with h | h
        · have:=iltN h; simp at this; omega
        · have:=ileN h; simp at this; omega
      have h2:m.mf.length≤60:=by
        rcases hl.2.1 with h | h
        · have:=iltN h; simp at this; omega
        · have:=ileN h; simp at this; omega
      omega
    have hr:=round hv hlen.1 hlen.2
    have htl:=text_len hv
    have e1:textV m=textM m:=by unfold textV; rw [hv]; rfl
    have e2:argE m=0:=by unfold argE; rw [hv]; rfl
    have e3:parM (textM m)=m:=by unfold parM; rw [hr]
    have e4:parP (textM m)=⟨0,0⟩:=by unfold parP; rw [hr]
    have e5:parE (textM m)=0:=by unfold parE; rw [hr]
    rw [e1,e2,e3,e4,e5,nleT (show (textM m).length≤300000 by omega),nleT (show (textM m).length≤90000 by omega),hz,show sameM m (⟨m.ms,m.mf⟩:Mesh)=true from sameM_refl m,beq_self_eq_true (textM m)]
    rfl
theorem mid (m:Mesh) (s:List UInt8) (hl:largeB m=false) (h:s.length≤2000∨(262144 < s.length∧s.length≤262244)):f1 s m.ms m.mf=outB true:=by
  show sh1 s m.ms m.mf f2=_
  unfold sh1
  have hp:(nle (List.length s) 300000&&(nle (List.length s) 90000||nlt 262144 (List.length s)))=true:=by
    rcases h with h | h
    · rw [nleT (by omega),nleT (by omega)]; rfl
    · rw [nleT (by omega),nltT (by omega),Bool.or_true]; rfl
  have hz:sizeOk (parM s)=true:=by
    unfold parM parT
    rcases h with h | h
    · rw [iltF (by simp; omega), cond_false]
      exact par_size 100000 s 1 [] [] (by simp; omega) (by simp; omega)
    · rw [iltT (by simp; omega)]
      rfl
  rw [hp,hz,sameM_refl,beq_self_eq_true,beq_self_eq_true,show ((parE s) != (parE s))=false by simp,tail m hl]
  rfl
theorem f0_eq (m : Mesh) (s : List UInt8) : f0 m s = outB true := by
  show sh0 m s f1=_
  unfold sh0
  cases hl:largeB m with
  | true=>rfl
  | false =>
    by_cases h1:2000 < s.length
    · rw [iltT (show (2000 : Int) < Int.ofNat s.length by simp; omega)]
      by_cases h2:s.length≤262144
      · rw [ileT (show Int.ofNat s.length ≤ 262144 by simp; omega)]
        rfl
      · rw [ileF (show ¬ Int.ofNat s.length ≤ 262144 by simp; omega)]
        by_cases h3:262244 < s.length
        · rw [iltT (show (262244 : Int) < Int.ofNat s.length by simp; omega)]
          rfl
        · rw [iltF (show ¬ (262244 : Int) < Int.ofNat s.length by simp; omega)]
          exact mid m s hl (.inr (by omega))
    · rw [iltF (show ¬ (2000 : Int) < Int.ofNat s.length by simp; omega), iltF (show ¬ (262244 : Int) < Int.ofNat s.length by simp; omega)]
      exact mid m s hl (.inl (by omega))
theorem ok:CtxOk Tryz.prog X:=ctxOk tab (spC awake.spOk (spC large.spOk (spC parse.spOk (spC rparse.spOk (spC rsame.spOk (spC text.spOk (spC rvalid.spOk (spC rtext.spOk spN)))))))) dpN
theorem okM:MOk Tryz.prog X:=fun g sp h=>by cases h
theorem spec (m:Mesh) (s:List UInt8):CallSpec Tryz.prog E 3 [(.agg [(.lst .spot m.ms),(.lst .face m.mf)]),(.str s)] (.bool (true)) [] :=
  runFn_sound ok okM Tryz.call3 Tryz.func3 (by kernel_rfl) (by kernel_rfl) (by kernel_rfl) (by show 2≤103; decide) (by decide) (by rfl) ((run m s).trans (f0_eq m s))
noncomputable def sp:Sp U El:=fun args k=>match args with
  | [.agg [.lst .spot m_ms,.lst .face m_mf],.str s]=>k (.bool (true)) []
  | _=>none
theorem spOk:SpOk Tryz.prog E 3 sp where
  det:=fun vs=>by
    unfold sp
    split
    · exact ⟨some (_,_),fun _=>rfl⟩
    · exact ⟨none,fun _=>rfl⟩
  ok:=fun vs k r h=>by
    unfold sp at h
    split at h
    · exact ⟨_,_,spec ⟨_,_⟩ _,h⟩
    · cases h
end lawTexts
end Go.Proofs.YtnofdcckddfooaaGreatDoor
