import Derived.Test.YtlkfbblapimhoaaGreatDoorRZ
namespace Go.Proofs.YtlkfbblapimhoaaGreatDoor
set_option linter.all false
set_option maxRecDepth 100000
def NumK (ts:List Tok):Prop:=∀ t∈ts,t.kk=2→∃ d r,t.kt=d :: r∧digitB (byI d)=true
theorem kind2 (b : UInt8) (s : List UInt8) (h : (kindN (b :: s)).1 = 2) : digitB (byI b) = true := by
  unfold kindN at h
  have hg:List.getD (b :: s) 0 0=b:=rfl
  rw [hg] at h
  dsimp only at h
  cases q1:(byI b == 32||byI b == 9) with
  | true=>rw [q1] at h; cases h
  | false =>
    rw [q1] at h
    simp only [cond_false] at h
    cases q2:byI b == 10 with
    | true=>rw [q2] at h; cases h
    | false =>
      rw [q2] at h
      simp only [cond_false] at h
      cases q3:byI b == 35 with
      | true=>rw [q3] at h; cases h
      | false =>
        rw [q3] at h
        simp only [cond_false] at h
        cases q4:letterB (byI b) with
        | true =>
          rw [q4] at h
          simp only [cond_true] at h
          cases q5:ilt 20 (wordD (b :: s)) with
          | true=>rw [q5] at h; cases h
          | false=>rw [q5] at h; cases h
        | false =>
          rw [q4] at h
          simp only [cond_false] at h
          cases q5:digitB (byI b) with
          | true=>rfl
          | false =>
            rw [q5] at h
            simp only [cond_false] at h
            cases q6:symN (b :: s) == 0 with
            | true=>rw [q6] at h; cases h
            | false=>rw [q6] at h; cases h
theorem tokR_num : ∀ (n : Nat) (s : List UInt8) (l c : Int), NumK (tokR n s l c).l := by
  intro n
  induction n with
  | zero=>intro s l c t ht; cases ht
  | succ n ih =>
    intro s l c
    cases s with
    | nil =>
      intro t ht hk
      have:t=⟨5,[],l,c⟩:=by simpa [tokR] using ht
      rw [this] at hk
      cases hk
    | cons b s =>
      unfold tokR
      have cons:∀ (r:TR) (t0:Tok),NumK r.l→(t0.kk=2→∃ d q,t0.kt=d :: q∧digitB (byI d)=true)→NumK (r.cons t0).l:=fun r t0 h1 h2 t ht hk=>by
        rcases List.mem_cons.1 (show t∈t0 :: r.l from ht) with rfl | ht
        · exact h2 hk
        · exact h1 t ht hk
      cases ilt (kindN (b :: s)).1 0 with
      | true=>intro t ht; cases ht
      | false =>
        cases (kindN (b :: s)).1 == 4 with
        | true=>exact cons _ _ (ih _ _ _) (fun h=>by cases h)
        | false =>
          cases (kindN (b :: s)).1 == 0 with
          | true=>exact ih _ _ _
          | false =>
            refine cons _ _ (ih _ _ _) (fun h=>?_)
            obtain ⟨m,hm⟩:∃ m,(kindN (b :: s)).2=m+1:=⟨(kindN (b :: s)).2 - 1,by have:=(kindN_le b s).2; omega⟩
            refine ⟨b,s.take m,?_,kind2 b s h⟩
            show (b :: s).take (kindN (b :: s)).2=_
            rw [hm]
            rfl
theorem tokL_num (s:List UInt8):NumK (tokL s):=by
 unfold tokL
 cases tokE s == 0 with
 | true=>exact tokR_num _ _ _ _
 | false=>intro t ht; cases ht
theorem NumK.at_ {ts:List Tok} (h:NumK ts) (p:Int) (hk:(tokAt ts p).kk=2):∃ d r,(tokAt ts p).kt=d :: r∧digitB (byI d)=true:=by
  unfold tokAt at hk ⊢
  rw [List.getD_eq_getElem?_getD] at hk ⊢
  cases hg:ts[p.toNat]? with
  | none=>rw [hg] at hk; cases hk
  | some t =>
    rw [hg] at hk
    exact h t (List.mem_of_getElem? hg) hk
def Ag {α:Type} (ts:List Tok) (r:Res α) (d:α×Rdr):Prop:=d.2=⟨ts,r.p,!r.ok⟩∧(r.ok=true→d.1=r.v)
theorem ag_take (ts:List Tok) (p kd:Int) (hk:kd≠5):Ag ts (takeR ts p kd []) (takeD ⟨ts,p,false⟩ kd):=by
 unfold takeR takeD Ag
 have h5:(kd == 5)=false:=beq_eq_false_iff_ne.2 hk
 dsimp only
 rw [h5]
 cases (tokAt ts p).kk == kd
 ·exact ⟨rfl,fun h=>by cases h⟩
 ·exact ⟨rfl,fun _=>rfl⟩
theorem ag_word (ts:List Tok) (p kd:Int) (a:UInt8) (x:List UInt8):rwordD ⟨ts,p,false⟩ kd (a :: x)=⟨ts,(takeR ts p kd (a :: x)).p,!(takeR ts p kd (a :: x)).ok⟩:=by
 unfold takeR rwordD nextB
 have hx:(a :: x == ([]:List UInt8))=false:=rfl
 rw [hx]
 show (bif false || !((tokAt ts p).kk == kd&&(tokAt ts p).kt == a :: x) then _ else _)=_
 simp only [Bool.false_or]
 cases (tokAt ts p).kk == kd&&(tokAt ts p).kt == a :: x<;>rfl
theorem ag_num {ts:List Tok} (hn:NumK ts) (p:Int):Ag ts (numR ts p) (numD ⟨ts,p,false⟩):=by
  have hm:minD ⟨ts,p,false⟩=nextB ts p 3 [45]:=rfl
  have hq:numQD ⟨ts,p,false⟩=⟨ts,numQ ts p,false⟩:=rfl
  unfold numR numD Ag
  rw [hm,hq]
  have ht:takeD ⟨ts,numQ ts p,false⟩ 2=bif (tokAt ts (numQ ts p)).kk == 2 then ((tokAt ts (numQ ts p)).kt,⟨ts,numQ ts p+1,false⟩) else ([],⟨ts,numQ ts p,true⟩):=by
    unfold takeD
    show (bif false || !((tokAt ts (numQ ts p)).kk == 2) then _ else _)=_
    simp only [Bool.false_or]
    cases (tokAt ts (numQ ts p)).kk == 2<;>rfl
  rw [ht]
  cases h2:(tokAt ts (numQ ts p)).kk == 2 with
  | false=>exact ⟨rfl,fun h=>by cases h⟩
  | true =>
    obtain ⟨d,r,hs,hd⟩:=hn.at_ (numQ ts p) (eq_of_beq h2)
    obtain ⟨e1,e2⟩:=num_eq hs hd
    have hne:((tokAt ts (numQ ts p)).kt == [])=false:=by rw [hs]; rfl
    simp only [cond_true,cond_false,Bool.true_and]
    rw [hne,Bool.false_or,e1]
    cases ho:okD (tokAt ts (numQ ts p)).kt with
    | false=>exact ⟨rfl,fun h=>by cases h⟩
    | true =>
      rw [e2 ho]
      exact ⟨rfl,fun _=>rfl⟩
theorem ag_sgn (ts:List Tok) (p:Int):Ag ts (sgnR ts p) (sgnD ⟨ts,p,false⟩):=by
  unfold sgnR sgnD Ag
  dsimp only
  simp only [Bool.not_false,Bool.true_and]
  cases nextB ts p 3 [60] with
  | true=>exact ⟨rfl,fun _=>rfl⟩
  | false =>
    simp only [cond_false]
    rw [ag_word]
    unfold Res.bd
    cases (takeR ts p 3 [62,61]).ok with
    | true=>exact ⟨rfl,fun _=>rfl⟩
    | false=>exact ⟨rfl,fun h=>by cases h⟩
theorem ag_cnd {ts:List Tok} (hn:NumK ts) (p:Int):Ag ts (cndR ts p) (cndD ⟨ts,p,false⟩):=by
  obtain ⟨t1,t2⟩:=ag_take ts p 1 (by decide)
  have e:cndD ⟨ts,p,false⟩=(⟨(takeD ⟨ts,p,false⟩ 1).1,(sgnD (takeD ⟨ts,p,false⟩ 1).2).1,(numD (sgnD (takeD ⟨ts,p,false⟩ 1).2).2).1⟩,(numD (sgnD (takeD ⟨ts,p,false⟩ 1).2).2).2):=rfl
  unfold cndR
  rw [e,t1]
  generalize takeR ts p 1 []=r1 at *
  unfold Res.bd
  cases h1:r1.ok with
  | false =>
    simp only [Bool.not_false,cond_false]
    have hb:(⟨ts,r1.p,true⟩:Rdr).rb=true:=rfl
    rw [sgnD_bad hb]
    exact ⟨numD_bad hb,fun h=>by cases h⟩
  | true =>
    rw [t2 h1]
    simp only [Bool.not_true,cond_true]
    obtain ⟨s1,s2⟩:=ag_sgn ts r1.p
    rw [s1]
    generalize sgnR ts r1.p=r2 at *
    cases h2:r2.ok with
    | false =>
      simp only [Bool.not_false,cond_false]
      exact ⟨numD_bad rfl,fun h=>by cases h⟩
    | true =>
      rw [s2 h2]
      simp only [Bool.not_true,cond_true]
      obtain ⟨n1,n2⟩:=ag_num hn r2.p
      generalize numR ts r2.p=r3 at *
      cases h3:r3.ok with
      | false=>exact ⟨by rw [n1,h3]; rfl,fun h=>by cases h⟩
      | true=>exact ⟨by rw [n1,h3]; rfl,fun _=>by rw [n2 h3]; rfl⟩
theorem ag_cnds {ts : List Tok} (hn : NumK ts) (ho : okT ts = true) : ∀ (m : Nat) (p : Int) (acc : List Cnd), At ts (p + 1) → 0 ≤ p → Int.ofNat ts.length < Int.ofNat m + p + 1 → Ag ts (cndsR ts m p acc) (cndsD m (cndD ⟨ts, p + 1, false⟩).2 (acc ++ [(cndD ⟨ts, p + 1, false⟩).1])) := by
  intro m
  induction m with
  | zero=>intro p acc h h0 hm; obtain ⟨h1,h2⟩:=h; simp at hm h2; omega
  | succ m ih =>
    intro p acc h h0 hm
    obtain ⟨c1,c2⟩:=ag_cnd hn (p+1)
    have hf:=cndR_fine ho h
    unfold cndsR
    rw [c1]
    generalize cndR ts (p+1)=r at *
    unfold Res.bd cndsD
    cases hr:r.ok with
    | false=>exact ⟨rfl,fun h=>by cases h⟩
    | true =>
      rw [c2 hr]
      simp only [Bool.not_true,Bool.not_false,Bool.true_and,cond_true]
      have hs:=hf.step hr
      cases hx:nextB ts r.p 1 [97,110,100] with
      | false=>exact ⟨rfl,fun _=>rfl⟩
      | true =>
        simp only [cond_true]
        exact ih r.p (acc++[r.v]) (nextB_more ho hf.at_ (by decide) hx) hf.at_.1 (by simp only [Int.ofNat_eq_natCast] at hm ⊢; omega)
theorem ag_when {ts:List Tok} (hn:NumK ts) (ho:okT ts=true) (p:Int) (h:At ts p):Ag ts (whenR ts p) (whenD ⟨ts,p,false⟩):=by
 unfold whenR whenD
 show Ag ts _ (bif !false&&nextB ts p 1 [119,104,101,110] then _ else _)
 simp only [Bool.not_false,Bool.true_and]
 cases hx:nextB ts p 1 [119,104,101,110] with
 | false=>exact ⟨rfl,fun _=>rfl⟩
 | true=>exact ag_cnds hn ho (ts.length+1) p [] (nextB_more ho h (by decide) hx) h.1 (by have:=h.1; simp only [Int.ofNat_eq_natCast]; omega)
theorem ag_rule {ts : List Tok} (hn : NumK ts) (ho : okT ts = true) (p : Int) (h : At ts p) : Ag ts (rulR ts p) (rulD ⟨ts, p, false⟩) := by
  have f1:=takeR_fine (kd:=1) (x:=[114,117,108,101]) ho h (by decide)
  have w1:=ag_word ts p 1 114 [117,108,101]
  have e:rulD ⟨ts,p,false⟩=tailD (whenD (takeD (rwordD ⟨ts,p,false⟩ 1 [114,117,108,101]) 1).2) (takeD (rwordD ⟨ts,p,false⟩ 1 [114,117,108,101]) 1).1:=rfl
  unfold rulR
  rw [e,w1]
  generalize takeR ts p 1 [114,117,108,101]=r1 at *
  have bad:∀ (q:Int) (nm:List UInt8) (w:List Cnd),Ag ts (⟨false,d_rule,q⟩:Res Rule) (tailD (w,⟨ts,q,true⟩) nm):=fun q nm w=>⟨tailD_bad (w:=(w,⟨ts,q,true⟩)) rfl,fun h=>by cases h⟩
  have badW:∀ (q:Int) (nm:List UInt8),Ag ts (⟨false,d_rule,q⟩:Res Rule) (tailD (whenD ⟨ts,q,true⟩) nm):=fun q nm=>by
    have h2:=whenD_bad (r:=⟨ts,q,true⟩) rfl
    have:whenD ⟨ts,q,true⟩=((whenD ⟨ts,q,true⟩).1,⟨ts,q,true⟩):=Prod.ext rfl h2
    rw [this]
    exact bad q nm _
  unfold Res.bd
  cases h1:r1.ok with
  | false =>
    simp only [Bool.not_false,cond_false]
    rw [takeD_bad (r:=⟨ts,r1.p,true⟩) rfl]
    exact badW _ _
  | true =>
    simp only [Bool.not_true,cond_true]
    have f2:=takeR_fine (kd:=1) (x:=[]) ho f1.at_ (by decide)
    obtain ⟨a1,a2⟩:=ag_take ts r1.p 1 (by decide)
    rw [a1]
    generalize takeR ts r1.p 1 []=r2 at *
    cases h2:r2.ok with
    | false =>
      simp only [Bool.not_false,cond_false]
      exact badW _ _
    | true =>
      rw [a2 h2]
      simp only [Bool.not_true,cond_true]
      have fw:=whenR_fine ho f2.at_
      obtain ⟨g1,g2⟩:=ag_when hn ho r2.p f2.at_
      have hwd:whenD ⟨ts,r2.p,false⟩=((whenD ⟨ts,r2.p,false⟩).1,⟨ts,(whenR ts r2.p).p,!(whenR ts r2.p).ok⟩):=Prod.ext rfl g1
      rw [hwd]
      generalize (whenD ⟨ts,r2.p,false⟩).1=wv at *
      generalize whenR ts r2.p=r3 at *
      cases h3:r3.ok with
      | false =>
        simp only [Bool.not_false,cond_false]
        exact bad _ _ _
      | true =>
        rw [g2 h3]
        simp only [Bool.not_true,cond_true]
        have f4:=takeR_fine (kd:=1) (x:=[115,101,116]) ho fw.2 (by decide)
        have w4:=ag_word ts r3.p 1 115 [101,116]
        unfold tailD
        simp only [w4]
        generalize takeR ts r3.p 1 [115,101,116]=r4 at *
        have stay:∀ q:Int,∀ x y:List UInt8,Ag ts (⟨false,d_rule,q⟩:Res Rule) ((⟨r2.v,r3.v,(takeD ⟨ts,q,true⟩ 1).1,(numD (rwordD (takeD ⟨ts,q,true⟩ 1).2 1 [116,111])).1⟩:Rule),(takeD (numD (rwordD (takeD ⟨ts,q,true⟩ 1).2 1 [116,111])).2 4).2):=fun q x y=>by
          refine ⟨?_,fun h=>by cases h⟩
          show (takeD (numD (rwordD (takeD ⟨ts,q,true⟩ 1).2 1 [116,111])).2 4).2=_
          rw [takeD_bad (r:=⟨ts,q,true⟩) rfl,rwordD_bad (r:=⟨ts,q,true⟩) rfl,numD_bad (r:=⟨ts,q,true⟩) rfl,takeD_bad (r:=⟨ts,q,true⟩) rfl]
          rfl
        cases h4:r4.ok with
        | false =>
          simp only [Bool.not_false,cond_false]
          exact stay _ [] []
        | true =>
          simp only [Bool.not_true,cond_true]
          have f5:=takeR_fine (kd:=1) (x:=[]) ho f4.at_ (by decide)
          obtain ⟨b1,b2⟩:=ag_take ts r4.p 1 (by decide)
          rw [b1]
          generalize takeR ts r4.p 1 []=r5 at *
          cases h5:r5.ok with
          | false =>
            simp only [Bool.not_false,cond_false]
            refine ⟨?_,fun h=>by cases h⟩
            show (takeD (numD (rwordD ⟨ts,r5.p,true⟩ 1 [116,111])).2 4).2=_
            rw [rwordD_bad (r:=⟨ts,r5.p,true⟩) rfl,numD_bad (r:=⟨ts,r5.p,true⟩) rfl,takeD_bad (r:=⟨ts,r5.p,true⟩) rfl]
            rfl
          | true =>
            rw [b2 h5]
            simp only [Bool.not_true,cond_true]
            have f6:=takeR_fine (kd:=1) (x:=[116,111]) ho f5.at_ (by decide)
            rw [ag_word ts r5.p 1 116 [111]]
            generalize takeR ts r5.p 1 [116,111]=r6 at *
            cases h6:r6.ok with
            | false =>
              simp only [Bool.not_false,cond_false]
              refine ⟨?_,fun h=>by cases h⟩
              show (takeD (numD ⟨ts,r6.p,true⟩).2 4).2=_
              rw [numD_bad (r:=⟨ts,r6.p,true⟩) rfl,takeD_bad (r:=⟨ts,r6.p,true⟩) rfl]
              rfl
            | true =>
              simp only [Bool.not_true,cond_true]
              have f7:=numR_fine ho f6.at_
              obtain ⟨n1,n2⟩:=ag_num hn r6.p
              rw [n1]
              generalize numR ts r6.p=r7 at *
              cases h7:r7.ok with
              | false =>
                simp only [Bool.not_false,cond_false]
                refine ⟨?_,fun h=>by cases h⟩
                show (takeD ⟨ts,r7.p,true⟩ 4).2=_
                rw [takeD_bad (r:=⟨ts,r7.p,true⟩) rfl]
                rfl
              | true =>
                rw [n2 h7]
                simp only [Bool.not_true,cond_true]
                obtain ⟨z1,z2⟩:=ag_take ts r7.p 4 (by decide)
                rw [z1]
                generalize takeR ts r7.p 4 []=r8 at *
                cases h8:r8.ok with
                | false=>exact ⟨rfl,fun h=>by cases h⟩
                | true=>exact ⟨rfl,fun _=>rfl⟩
namespace rparse
noncomputable def bd:Code:=(Tryz.f12.body).getD .skip
noncomputable def X:Ctx U El:=⟨E,tds,zeros,eqs,specOf [(9,rvalid.sp),(46,rtokens.sp),(47,rrule.sp)],100000,72,dspecOf [],fun _=>none,fun _=>none⟩
noncomputable def nmR:Norm U:=⟨[],[2,72,4],[],[(2,.rule)],[],[],[]⟩
noncomputable def RR:Kont U El:=fun st=>loadRes X 72 [(3,29)] 72 st fun st=>normK nmR st (retFin [2,72,4] [])
noncomputable def nm1:Norm U:=⟨[(9,.rule)],[3,8,9],[9,3,8],[],[],[],[(8,0,.tok)]⟩
noncomputable def nm2:Norm U:=⟨[(9,.rule)],[3,8,9],[9,3,8],[],[],[],[(8,0,.tok)]⟩
noncomputable def nm3:Norm U:=⟨[(9,.rule)],[3,8,9],[9,3,8],[],[],[],[(8,0,.tok)]⟩
abbrev Y1:=(List Rule)→Int→Int→(List Tok)→Int→Bool→R
abbrev Y2:=(List Rule)→Int→Int→(List Tok)→Int→Bool→R
abbrev Y3:=(List Rule)→Int→Int→(List Tok)→Int→Bool→R
noncomputable def fr0 (s:List UInt8):St U El:=⟨[(0,(.str s))],[]⟩
noncomputable def fr1 (dA:List Rule) (eA:Int) (fA:Int) (aA:List Tok) (bA:Int) (cA:Bool):St U El:=⟨[(3,(.ptr 3 0)),(8,(.ptr 8 0)),(9,(.ful 9))],[(9,(.rows .rule dA)),(3,(.box 0 [(.int .i64 eA),(.int .i64 fA)])),(8,(.box 0 [(.lst .tok aA),(.int .i64 bA),(.bool cA)]))]⟩
noncomputable def fr2 (dA:List Rule) (eA:Int) (fA:Int) (aA:List Tok) (bA:Int) (cA:Bool):St U El:=⟨[(3,(.ptr 3 0)),(8,(.ptr 8 0)),(9,(.ful 9))],[(9,(.rows .rule dA)),(3,(.box 0 [(.int .i64 eA),(.int .i64 fA)])),(8,(.box 0 [(.lst .tok aA),(.int .i64 bA),(.bool cA)]))]⟩
noncomputable def fr3 (dA:List Rule) (eA:Int) (fA:Int) (aA:List Tok) (bA:Int) (cA:Bool):St U El:=⟨[(3,(.ptr 3 0)),(8,(.ptr 8 0)),(9,(.ful 9))],[(9,(.rows .rule dA)),(3,(.box 0 [(.int .i64 eA),(.int .i64 fA)])),(8,(.box 0 [(.lst .tok aA),(.int .i64 bA),(.bool cA)]))]⟩
noncomputable def sh0 (s:List UInt8) (k2:Y2):R :=
 chk (nle (List.length s) 90000) (condB ((tokE s) != (0:Int)) (some ((.tup [(.lst .rule ([]:List Rule)),(.agg [(.int .i64 ((tokP s).pl)),(.int .i64 ((tokP s).pc))]),(.int .i64 (tokE s))]),[])) (k2 ([]:List Rule) (0:Int) (0:Int) (tokL s) (0:Int) false))
noncomputable def sh1 (dA:List Rule) (eA:Int) (fA:Int) (aA:List Tok) (bA:Int) (cA:Bool):R :=
 condB cA (chk (inb bA (List.length aA)) (some ((.tup [(.lst .rule ([]:List Rule)),(.agg [(.int .i64 ((List.getD aA (Int.toNat bA) d_tok).kl)),(.int .i64 ((List.getD aA (Int.toNat bA) d_tok).kc))]),(.int .i64 (7:Int))]),[]))) (condB (!(rulesB dA)) (some ((.tup [(.lst .rule ([]:List Rule)),(.agg [(.int .i64 (0:Int)),(.int .i64 (0:Int))]),(.int .i64 (1:Int))]),[])) (some ((.tup [(.lst .rule dA),(.agg [(.int .i64 (0:Int)),(.int .i64 (0:Int))]),(.int .i64 (0:Int))]),[])))
noncomputable def sh2 (dA:List Rule) (eA:Int) (fA:Int) (aA:List Tok) (bA:Int) (cA:Bool) (k1:Y1) (k3:Y3):R :=
 condB (!cA) (chk (inb bA (List.length aA)) (condB ((List.getD aA (Int.toNat bA) d_tok).kk != (5:Int)) (k3 dA eA fA aA bA cA) (k1 dA eA fA aA bA cA))) (k1 dA eA fA aA bA cA)
noncomputable def sh3 (dA:List Rule) (eA:Int) (fA:Int) (aA:List Tok) (bA:Int) (cA:Bool) (k2:Y2):R :=
 chk (inb bA (List.length aA)) (condB ((List.getD aA (Int.toNat bA) d_tok).kk == (4:Int)) (k2 dA eA fA aA (IntKind.wrap .i64 (bA+(1:Int))) cA) (chk (okRd (⟨aA,bA,cA⟩:Rdr)) (chk (nle ((List.length dA+List.length ([((rulD (⟨aA,bA,cA⟩:Rdr)).1)]:List Rule)) * 64) 140737488355328&&nle (List.length dA+List.length ([((rulD (⟨aA,bA,cA⟩:Rdr)).1)]:List Rule)) 9223372036854775807) (k2 (dA++([((rulD (⟨aA,bA,cA⟩:Rdr)).1)]:List Rule)) eA fA (((rulD (⟨aA,bA,cA⟩:Rdr)).2).rt) (((rulD (⟨aA,bA,cA⟩:Rdr)).2).ra) (((rulD (⟨aA,bA,cA⟩:Rdr)).2).rb)))))
noncomputable def it2 (Kb1:Kont U El) (n:Nat):Kont U El:=iter nm2 (fun st' K'=>exec X (cdp [1,1,1,1,1,0,0,0] bd) (.seq (some nm3) .d .d) st' K' (Eblk 0 (cutK nm1 Kb1) (fun _ _=>none)) RR) n
noncomputable def ct1:Kont U El:=fun st=>exec X (cdp [1,1,1,1,1,1] bd) (.seq none (.seq none .d (.cond (.seq none (.region [(8,3)]) .d) .d)) .d) st RR (fun _ _=>none) RR
noncomputable def ct3 (Kb1 Kb2:Kont U El):Kont U El:=fun st=>exec X (cdp [1,1,1,1,1,0,0,0,1] bd) .d st (cutK nm2 Kb2) (Eblk 0 (cutK nm1 Kb1) (fun _ _=>none)) RR
theorem P0 (s):exec X (cdp [] bd) (.seq none .d (.seq none .d (.seq none (.seq none .d (.cond (.seq none (.region [(3,3)]) .d) .d)) (.seq none .d (.seq none .d (.seq (some nm1) (.block (.loop nm2 (.seq (some nm3) .d .d))) (.seq none (.seq none .d (.cond (.seq none (.region [(8,3)]) .d) .d)) .d))))))) (fr0 s) RR (fun _ _=>none) RR=sh0 s (fun y0 y1 y2 y3 y4 y5=>(hid (it2 (hid ct1) 100000)) (fr2 y0 y1 y2 y3 y4 y5)):=by kernel_rfl
theorem P1 (dA eA fA aA bA cA):ct1 (fr1 dA eA fA aA bA cA)=sh1 dA eA fA aA bA cA:=by kernel_rfl
theorem P2 (dA eA fA aA bA cA) (Kb1 Kb2:Kont U El):exec X (cdp [1,1,1,1,1,0,0,0] bd) (.seq (some nm3) .d .d) (fr2 dA eA fA aA bA cA) (cutK nm2 Kb2) (Eblk 0 (cutK nm1 Kb1) (fun _ _=>none)) RR=sh2 dA eA fA aA bA cA (fun y0 y1 y2 y3 y4 y5=>Kb1 (fr1 y0 y1 y2 y3 y4 y5)) (fun y0 y1 y2 y3 y4 y5=>(hid (ct3 Kb1 Kb2)) (fr3 y0 y1 y2 y3 y4 y5)):=by kernel_rfl
theorem P3 (dA eA fA aA bA cA) (Kb1 Kb2:Kont U El):ct3 Kb1 Kb2 (fr3 dA eA fA aA bA cA)=sh3 dA eA fA aA bA cA (fun y0 y1 y2 y3 y4 y5=>Kb2 (fr2 y0 y1 y2 y3 y4 y5)):=by kernel_rfl
noncomputable def f1 (dA:List Rule) (eA:Int) (fA:Int) (aA:List Tok) (bA:Int) (cA:Bool):R:=sh1 dA eA fA aA bA cA
noncomputable def f3 (k2:Y2) (dA:List Rule) (eA:Int) (fA:Int) (aA:List Tok) (bA:Int) (cA:Bool):R:=sh3 dA eA fA aA bA cA k2
noncomputable def f2:Nat→Y2
 | 0=>fun _ _ _ _ _ _=>none
 | n+1=>fun dA eA fA aA bA cA=>sh2 dA eA fA aA bA cA f1 (f3 (f2 n))
noncomputable def f0 (s:List UInt8):R:=sh0 s (f2 100000)
theorem T1 (dA eA fA aA bA cA):(hid ct1) (fr1 dA eA fA aA bA cA)=f1 dA eA fA aA bA cA:=by
 refine (congrFun (hid_eq _) _).trans <| (P1 dA eA fA aA bA cA).trans ?_
 show _=sh1 dA eA fA aA bA cA
 rfl
theorem T3 (KL2:Kont U El) (k2:Y2) (h2:∀ dA eA fA aA bA cA,KL2 (fr2 dA eA fA aA bA cA)=k2 dA eA fA aA bA cA) (dA eA fA aA bA cA):(hid (ct3 (hid ct1) KL2)) (fr3 dA eA fA aA bA cA)=f3 k2 dA eA fA aA bA cA:=by
 refine (congrFun (hid_eq _) _).trans <| (P3 dA eA fA aA bA cA (hid ct1) KL2).trans ?_
 show _=sh3 dA eA fA aA bA cA k2
 simp only [h2]
theorem T2:∀ (n:Nat),∀ dA eA fA aA bA cA,it2 (hid ct1) n (fr2 dA eA fA aA bA cA)=f2 n dA eA fA aA bA cA:=by
  intro n
  induction n with
  | zero=>intros; rfl
  | succ n ih =>
    intro dA eA fA aA bA cA
    refine (P2 dA eA fA aA bA cA (hid ct1) (it2 (hid ct1) n)).trans ?_
    show _=sh2 dA eA fA aA bA cA f1 (f3 (f2 n))
    simp only [T1,T3 (it2 (hid ct1) n) (f2 n) ih]
theorem H2 (dA eA fA aA bA cA):hid (it2 (hid ct1) 100000) (fr2 dA eA fA aA bA cA)=f2 100000 dA eA fA aA bA cA:=(congrFun (hid_eq _) _).trans (T2 100000 dA eA fA aA bA cA)
theorem T0 (s):exec X bd (.seq none .d (.seq none .d (.seq none (.seq none .d (.cond (.seq none (.region [(3,3)]) .d) .d)) (.seq none .d (.seq none .d (.seq (some nm1) (.block (.loop nm2 (.seq (some nm3) .d .d))) (.seq none (.seq none .d (.cond (.seq none (.region [(8,3)]) .d) .d)) .d))))))) (fr0 s) RR (fun _ _=>none) RR=f0 s:=by
 refine (P0 s).trans ?_
 show _=sh0 s (f2 100000)
 simp only [H2]
theorem run (s):runFnC X bd (.seq none .d (.seq none .d (.seq none (.seq none .d (.cond (.seq none (.region [(3,3)]) .d) .d)) (.seq none .d (.seq none .d (.seq (some nm1) (.block (.loop nm2 (.seq (some nm3) .d .d))) (.seq none (.seq none .d (.cond (.seq none (.region [(8,3)]) .d) .d)) .d))))))) nmR [(3,29)] [2,72,4] [] [(.str s)]=f0 s:=T0 s
theorem f1_eq (ts:List Tok) (r:Res (List Rule)) (hr:At ts r.p) (a b:Int) (v:List Rule) (hv:r.ok=true→v=r.v):f1 v a b ts r.p (!r.ok)=outPR ts r:=by
  show sh1 v a b ts r.p (!r.ok)=_
  unfold sh1 outPR
  rw [inb_At.2 hr]
  cases h:r.ok with
  | false=>rfl
  | true =>
    rw [hv h]
    simp only [Bool.not_true,condF,condT]
    cases rulesB r.v<;>rfl
theorem loop (ts : List Tok) (hn : NumK ts) (ho : okT ts = true) (a b : Int) : ∀ (m n : Nat) (p : Int) (acc : List Rule), At ts p → acc.length ≤ p.toNat → Int.ofNat ts.length < Int.ofNat m + p + 1 → m + 1 ≤ n → f2 n acc a b ts p false = outPR ts (parR ts m p acc) := by
  intro m
  induction m with
  | zero=>intro n p acc h _ hm _; obtain ⟨h1,h2⟩:=h; simp at hm h2; omega
  | succ m ih =>
    intro n p acc h hacc hm hn'
    obtain ⟨n,rfl⟩:∃ n',n=n'+1:=⟨n - 1,by omega⟩
    have hl:=h.len ho
    show sh2 acc a b ts p false f1 (f3 (f2 n))=_
    unfold sh2 parR
    rw [inb_At.2 h]
    simp only [Bool.not_false,condT,chkT]
    have hb:((List.getD ts (Int.toNat p) d_tok).kk != (5:Int)) = !((tokAt ts p).kk == 5):=rfl
    rw [hb]
    cases h5:(tokAt ts p).kk == 5
    · simp only [Bool.not_false, condT, cond_false]
      have hne:(tokAt ts p).kk≠5:=beq_eq_false_iff_ne.1 h5
      show sh3 acc a b ts p false (f2 n)=_
      unfold sh3
      rw [inb_At.2 h]
      simp only [chkT]
      have hb4:((List.getD ts (Int.toNat p) d_tok).kk == (4:Int))=((tokAt ts p).kk == 4):=rfl
      rw [hb4]
      cases h4:(tokAt ts p).kk == 4
      · simp only [condF, cond_false]
        have hOk:OkR ⟨ts,p,false⟩:=⟨ho,h⟩
        have hr:=rulR_fine ho h
        obtain ⟨g1,g2⟩:=ag_rule hn ho p h
        rw [hOk.okr,nleT (by simp; omega),nleT (by simp; omega),g1]
        simp only [Bool.and_self,chkT]
        unfold Res.bd
        generalize rulR ts p=r at *
        cases e1:r.ok
        · simp only [Bool.not_false, cond_false]
          obtain ⟨n,rfl⟩:∃ n',n=n'+1:=⟨n - 1,by omega⟩
          show sh2 _ a b ts r.p true f1 (f3 (f2 n))=_
          unfold sh2
          simp only [Bool.not_true,condF]
          exact f1_eq ts ⟨false,[],r.p⟩ hr.at_ a b _ (fun h=>by cases h)
        · simp only [Bool.not_true, cond_true]
          rw [g2 e1]
          have hs:=hr.step e1
          have hr0:=hr.at_.1
          exact ih n r.p (acc++[r.v]) hr.at_ (by simp; omega) (by simp only [Int.ofNat_eq_natCast] at hm ⊢; omega) (by omega)
      · simp only [condT, cond_true]
        rw [h.wrap hl.1]
        exact ih n (p+1) acc (h.more ho hne) (by omega) (by simp only [Int.ofNat_eq_natCast] at hm ⊢; omega) (by omega)
    · simp only [Bool.not_true, condF, cond_true]
      exact f1_eq ts ⟨true,acc,p⟩ h a b acc (fun _=>rfl)
theorem f0_eq (s:List UInt8) (h:nle (List.length s) 80000=true):f0 s=some (.tup [.lst .rule (uparL s),.agg [.int .i64 (uparP s).pl,.int .i64 (uparP s).pc],.int .i64 (uparE s)],[]):=by
  have hl:=nleI h
  show sh0 s (f2 100000)=_
  unfold sh0 uparL uparP uparE
  rw [nleT (show s.length≤90000 by omega)]
  simp only [chkT]
  have hb:(tokE s != (0:Int)) = !(tokE s == 0):=rfl
  rw [hb]
  cases he:tokE s == 0 with
  | false=>rfl
  | true =>
    simp only [Bool.not_true,condF,cond_true]
    have ho:=tok_ok hl (eq_of_beq he)
    have hlen:0 < (tokL s).length:=by
      have ho2:=ho
      simp only [okT,Bool.and_eq_true,beq_iff_eq] at ho2
      cases hts:tokL s with
      | nil=>rw [hts] at ho2; have:=ho2.2.1; simp [tokAt,d_tok] at this
      | cons t ts=>simp
    have hl2:(tokL s).length≤90000:=by
      simp only [okT,Bool.and_eq_true] at ho
      exact nleI ho.1
    rw [loop (tokL s) (tokL_num s) ho 0 0 ((tokL s).length+1) 100000 0 [] ⟨by decide,by simp; exact hlen⟩ (by simp) (by simp; omega) (by omega)]
    show outPR (tokL s) (prgR (tokL s))=_
    unfold outPR parL parP parE
    cases (prgR (tokL s)).ok
    · rfl
    · cases rulesB (prgR (tokL s)).v<;>rfl
theorem ok:CtxOk Tryz.prog X:=ctxOk tab (spC rvalid.spOk (spC rtokens.spOk (spC rrule.spOk spN))) dpN
theorem okM:MOk Tryz.prog X:=fun g sp h=>by cases h
theorem spec (s:List UInt8) (h:(nle (List.length s) 80000)=true):CallSpec Tryz.prog E 12 [(.str s)] (.tup [(.lst .rule (uparL s)),(.agg [(.int .i64 ((uparP s).pl)),(.int .i64 ((uparP s).pc))]),(.int .i64 (uparE s))]) [] :=
 runFnC_sound ok okM Tryz.call12 Tryz.func12 (by kernel_rfl) (by kernel_rfl) (by kernel_rfl) (by show 1≤72; decide) (by decide) (by rfl) ((run s).trans (f0_eq s h))
noncomputable def sp:Sp U El:=fun args k=>match args with
 | [.str s]=>chk (nle (List.length s) 80000) (k (.tup [(.lst .rule (uparL s)),(.agg [(.int .i64 ((uparP s).pl)),(.int .i64 ((uparP s).pc))]),(.int .i64 (uparE s))]) [])
 | _=>none
theorem spOk:SpOk Tryz.prog E 12 sp:=⟨fun vs=>by unfold sp;split;exact det_c _ _ _;exact ⟨none,fun _=>rfl⟩,fun vs k r h=>by unfold sp at h;split at h;(obtain ⟨h1,h2⟩:=chk_some h;exact ⟨_,_,spec _ h1,h2⟩);cases h⟩
end rparse
end Go.Proofs.YtlkfbblapimhoaaGreatDoor
