import Derived.Test.YtlkfbblapimhoaaGreatDoorTX
namespace Go.Proofs.YtlkfbblapimhoaaGreatDoor
set_option linter.all false
set_option maxRecDepth 100000
abbrev V1:=Int×List UInt8
noncomputable def vw (l:List Tok):List V1:=l.map fun t=>(t.kk,t.kt)
def Sep (r:List UInt8):Prop:=∃ q,r=32 :: q∨r=10 :: q
def GW (w:List UInt8) (v:List V1):Prop:=∀ r l c,Sep r→∃ l' c',(tokW (w++r) l c).bad=(tokW r l' c').bad∧vw (tokW (w++r) l c).l=v++vw (tokW r l' c').l
theorem one_tok {w:List UInt8} {k:Int} (hk:0 < k) (hk4:k≠4) (hw:w≠[]) (h:∀ r,Sep r→kindN (w++r)=(k,w.length)):GW w [(k,w)]:=by
 intro r l c hr
 obtain ⟨b,s,rfl⟩:∃ b s,w=b :: s:=by
  cases w with
  | nil=>exact absurd rfl hw
  | cons b s=>exact ⟨b,s,rfl⟩
 have hkd:=h r hr
 refine ⟨l,c+Int.ofNat (b :: s).length,?_⟩
 show (tokW (b :: (s++r)) l c).bad=_∧_
 rw [show b :: s++r=b :: (s++r) from rfl,tokW_cons b (s++r)]
 rw [show kindN (b :: (s++r))=(k,(b :: s).length) from hkd]
 simp only
 rw [iltF (by omega),show (k == 4)=false from beq_eq_false_iff_ne.2 hk4,show (k == 0)=false from beq_eq_false_iff_ne.2 (by omega)]
 simp only [cond_false]
 have hd:(b :: (s++r)).drop (b :: s).length=r:=by
  show List.drop (b :: s).length ((b :: s)++r)=r
  exact List.drop_left
 have ht:(b :: (s++r)).take (b :: s).length=b :: s:=by
  show List.take (b :: s).length ((b :: s)++r)=b :: s
  exact List.take_left
 rw [hd,ht]
 exact ⟨rfl,rfl⟩
theorem letter_not {z:Int} (h:letterB z=true):(z == 32)=false∧(z == 9)=false∧(z == 10)=false∧(z == 35)=false:=by
 unfold letterB at h
 simp only [Bool.or_eq_true,Bool.and_eq_true] at h
 have:65≤z:=by rcases h with h | h<;>have:=ileI h.1<;>omega
 simp only [beq_eq_false_iff_ne]
 omega
theorem digit_not {z:Int} (h:digitB z=true):(z == 32)=false∧(z == 9)=false∧(z == 10)=false∧(z == 35)=false∧letterB z=false:=by
 unfold digitB at h
 simp only [Bool.and_eq_true] at h
 have h1:=ileI h.1
 have h2:=ileI h.2
 simp only [beq_eq_false_iff_ne]
 refine ⟨by omega,by omega,by omega,by omega,?_⟩
 unfold letterB
 rw [ileF (show ¬ (97:Int)≤z by omega),ileF (show ¬ (65:Int)≤z by omega)]
 rfl
theorem kindN_letter {b:UInt8} {s:List UInt8} (h:letterB (byI b)=true) (hw:wordN (b :: s)≤20):kindN (b :: s)=(1,wordN (b :: s)):=by
 obtain ⟨a1,a2,a3,a4⟩:=letter_not h
 unfold kindN
 have hg:List.getD (b :: s) 0 0=b:=rfl
 rw [hg]
 simp only [a1,a2,a3,a4,h,Bool.or_self,cond_false,cond_true]
 rw [show ilt 20 (wordD (b :: s))=false from iltF (by unfold wordD; simp; omega)]
 rfl
theorem kindN_digit {b:UInt8} {s:List UInt8} (h:digitB (byI b)=true):kindN (b :: s)=(2,numeralN (b :: s)):=by
 obtain ⟨a1,a2,a3,a4,a5⟩:=digit_not h
 unfold kindN
 have hg:List.getD (b :: s) 0 0=b:=rfl
 rw [hg]
 simp only [a1,a2,a3,a4,a5,h,Bool.or_self,cond_false,cond_true]
theorem wordN_app {r:List UInt8} (hr:wordN r=0):∀ w:List UInt8,wordN w=w.length→wordN (w++r)=w.length:=by
  intro w
  induction w with
  | nil=>intro _; exact hr
  | cons b s ih =>
    intro h
    show wordN (b :: (s++r))=_
    unfold wordN at h ⊢
    cases hb:bodyB b with
    | false=>rw [hb] at h; simp at h
    | true =>
      rw [hb] at h
      simp only [cond_true,List.length_cons] at h ⊢
      rw [ih (by omega)]
theorem digN_app {r:List UInt8} (hr:digN r=0):∀ w:List UInt8,(∀ b∈w,digitB (byI b)=true)→digN (w++r)=w.length:=by
  intro w
  induction w with
  | nil=>intro _; exact hr
  | cons b s ih =>
    intro h
    show digN (b :: (s++r))=_
    unfold digN
    rw [h b (by simp),ih fun b hb=>h b (by simp [hb])]
    simp
theorem Sep.word {r:List UInt8} (h:Sep r):wordN r=0∧digN r=0∧fracB r=false:=by
 obtain ⟨q,rfl | rfl⟩:=h
 ·exact ⟨by unfold wordN; rw [show bodyB 32=false by decide +kernel]; rfl,by unfold digN; rw [show digitB (byI 32)=false by decide +kernel]; rfl,rfl⟩
 ·exact ⟨by unfold wordN; rw [show bodyB 10=false by decide +kernel]; rfl,by unfold digN; rw [show digitB (byI 10)=false by decide +kernel]; rfl,rfl⟩
theorem nameB_facts {w:List UInt8} (h:nameB w=true):∃ b s,w=b :: s∧letterB (byI b)=true∧wordN w=w.length∧w.length≤20:=by
  have hl:=nameB_len h
  unfold nameB at h
  simp only [Bool.and_eq_true] at h
  obtain ⟨h1,h2,h3,h4⟩:=h
  cases w with
  | nil=>simp at h1
  | cons b s =>
    refine ⟨b,s,rfl,h3,?_,hl⟩
    have:=eq_of_beq h4
    unfold wordD at this
    exact Int.ofNat.inj this
theorem GW.name {w:List UInt8} (h:nameB w=true):GW w [(1,w)]:=by
 obtain ⟨b,s,rfl,h1,h2,h3⟩:=nameB_facts h
 refine one_tok (by decide) (by decide) (by simp) fun r hr=>?_
 have hw:=wordN_app hr.word.1 _ h2
 show kindN (b :: (s++r))=_
 have hw':wordN (b :: (s++r))=(b :: s).length:=hw
 rw [kindN_letter h1 (by rw [hw']; exact h3),hw']
theorem GW.num {w:List UInt8} (hw:w≠[]) (h:∀ b∈w,digitB (byI b)=true):GW w [(2,w)]:=by
 refine one_tok (by decide) (by decide) hw fun r hr=>?_
 obtain ⟨b,s,rfl⟩:∃ b s,w=b :: s:=by
  cases w with
  | nil=>exact absurd rfl hw
  | cons b s=>exact ⟨b,s,rfl⟩
 obtain ⟨r1,r2,r3⟩:=hr.word
 have hd:=digN_app r2 _ h
 show kindN (b :: (s++r))=_
 rw [kindN_digit (h b (by simp))]
 have hd':digN (b :: (s++r))=(b :: s).length:=hd
 unfold numeralN
 rw [hd']
 have:(b :: (s++r)).drop (b :: s).length=r:=by
  show List.drop (b :: s).length ((b :: s)++r)=r
  exact List.drop_left
 rw [this,r3]
 rfl
theorem GW.lt:GW [60] [(3,[60])]:=one_tok (by decide) (by decide) (by simp) fun r hr=>by
 obtain ⟨q,rfl | rfl⟩:=hr
 ·show kindN (60 :: 32 :: q)=(3,1)
  kernel_rfl
 ·show kindN (60 :: 10 :: q)=(3,1)
  kernel_rfl
theorem GW.neg {w:List UInt8} (hw:w≠[]) (h:∀ b∈w,digitB (byI b)=true):GW (45 :: w) [(3,[45]),(2,w)]:=by
 intro r l c hr
 obtain ⟨b,s,rfl⟩:∃ b s,w=b :: s:=by
  cases w with
  | nil=>exact absurd rfl hw
  | cons b s=>exact ⟨b,s,rfl⟩
 obtain ⟨l',c',h1,h2⟩:=GW.num hw h r l (c+1) hr
 refine ⟨l',c',?_⟩
 have e:tokW (45 :: (b :: s++r)) l c=(tokW (b :: s++r) l (c+1)).cons ⟨3,[45],l,c⟩:=by
  rw [tokW_cons,show kindN (45 :: (b :: s++r))=(3,1) by (show kindN (45 :: b :: (s++r))=(3,1)); kernel_rfl]
  rfl
 show (tokW (45 :: (b :: s++r)) l c).bad=_∧_
 rw [show 45 :: (b :: s)++r=45 :: (b :: s++r) from rfl,e]
 refine ⟨h1,?_⟩
 show (3,[45]) :: vw (tokW (b :: s++r) l (c+1)).l=_
 rw [h2]
 rfl
noncomputable def numT (z:Int):List V1:=if z < 0 then [(3,[45]),(2,Lib.decDigits z.natAbs)] else [(2,Lib.decDigits z.toNat)]
theorem dig_ok (u:Nat):Lib.decDigits u≠[]∧∀ b∈Lib.decDigits u,digitB (byI b)=true:=by
 refine ⟨digits_ne u,fun b hb=>?_⟩
 obtain ⟨h1,h2⟩:=digits_all u u (Nat.le_refl _) b hb
 unfold digitB byI
 rw [ileT (by simp; omega),ileT (by simp; omega)]
 rfl
theorem GW.int (z:Int):GW (Lib.itoa z) (numT z):=by
 unfold Lib.itoa numT
 split
 ·exact GW.neg (dig_ok _).1 (dig_ok _).2
 ·exact GW.num (dig_ok _).1 (dig_ok _).2
abbrev WP:=List UInt8×List V1
noncomputable def cndP (i:Nat) (c:Cnd):List WP:=[(kwN i,[(1,kwN i)]),(c.cn,[(1,c.cn)]),(sgnW c.cb,[(3,sgnW c.cb)]),(Lib.itoa c.cl,numT c.cl)]
noncomputable def cndsP:Nat→List Cnd→List WP
 | _,[]=>[]
 | i,c :: l=>cndP i c++cndsP (i+1) l
noncomputable def ruleP (r:Rule):List WP:=[([114,117,108,101],[(1,[114,117,108,101])]),(r.rn,[(1,r.rn)])]++(cndsP 0 r.rw++[([115,101,116],[(1,[115,101,116])]),(r.rl,[(1,r.rl)]),([116,111],[(1,[116,111])]),(Lib.itoa r.rs,numT r.rs)])
noncomputable def ruleT (r:Rule):List V1:=((ruleP r).map (·.2)).flatten++[(4,[])]
end Go.Proofs.YtlkfbblapimhoaaGreatDoor
namespace Go.Proofs.YtlkfbblapimhoaaGreatDoor
set_option linter.all false
set_option maxRecDepth 100000
theorem Res.bdT {α β:Type} (v:α) (p:Int) (d:β) (f:α→Int→Res β):(⟨true,v,p⟩:Res α).bd d f=f v p:=rfl
def Dn (ts:List Tok) (p:Int) (L:List V1):Prop:=0≤p∧vw (ts.drop p.toNat)=L
theorem Dn.cons {ts:List Tok} {p:Int} {k:Int} {t:List UInt8} {L:List V1} (h:Dn ts p ((k,t) :: L)):(tokAt ts p).kk=k∧(tokAt ts p).kt=t∧Dn ts (p+1) L:=by
  obtain ⟨h0,h1⟩:=h
  cases hd:ts.drop p.toNat with
  | nil=>rw [hd] at h1; cases h1
  | cons x r =>
    rw [hd] at h1
    have hx:tokAt ts p=x:=by
      unfold tokAt
      have:(ts.drop p.toNat)[0]? = some x:=by rw [hd]; rfl
      rw [List.getElem?_drop] at this
      rw [List.getD_eq_getElem?_getD]
      simp only [Nat.add_zero] at this
      rw [this]
      rfl
    have hr:ts.drop (p+1).toNat=r:=by
      rw [show (p+1).toNat=p.toNat+1 by omega,← List.drop_drop,hd]
      rfl
    have h2:(x.kk,x.kt)=(k,t)∧vw r=L:=by
      unfold vw at h1
      simp only [List.map_cons] at h1
      exact ⟨(List.cons.inj h1).1,(List.cons.inj h1).2⟩
    refine ⟨by rw [hx]; exact (Prod.mk.inj h2.1).1,by rw [hx]; exact (Prod.mk.inj h2.1).2,by omega,by rw [hr]; exact h2.2⟩
theorem Dn.take {ts:List Tok} {p:Int} {k:Int} {t x:List UInt8} {L:List V1} (h:Dn ts p ((k,t) :: L)) (hx:x=[]∨t=x):takeR ts p k x=⟨true,t,p+1⟩∧Dn ts (p+1) L:=by
 obtain ⟨h1,h2,h3⟩:=h.cons
 refine ⟨?_,h3⟩
 unfold takeR
 rw [h1,h2]
 have:(k == k&&(x == []||t == x))=true:=by
  rcases hx with rfl | rfl<;>simp
 rw [this]
 rfl
theorem Dn.next {ts:List Tok} {p:Int} {k kd:Int} {t x:List UInt8} {L:List V1} (h:Dn ts p ((k,t) :: L)):nextB ts p kd x=(k == kd&&t == x):=by
 obtain ⟨h1,h2,h3⟩:=h.cons
 unfold nextB
 rw [h1,h2]
theorem Dn.num {ts:List Tok} {p:Int} {z:Int} {L:List V1} (hz:-4194304≤z) (hz2:z≤4194304) (h:Dn ts p (numT z++L)):∃ q,numR ts p=⟨true,z,q⟩∧Dn ts q L:=by
 have key:∀ n:Nat,n≤4194304→numOkS (Lib.decDigits n)=true∧atoiZ (Lib.decDigits n)=(n:Int):=fun n hn=>by
  have hi:Lib.itoa (n:Int)=Lib.decDigits n:=by
   unfold Lib.itoa
   rw [if_neg (by omega)]
   rfl
  have hf:fitsP (n:Int):=⟨by omega,by omega⟩
  have h1:=atoiB_itoa hf
  have h2:=atoiZ_itoa hf
  rw [hi] at h1 h2
  refine ⟨?_,h2⟩
  unfold numOkS
  rw [h1,h2,hi]
  have:=digits_len 14 n (by omega)
  rw [ileT (by simp; omega)]
  simp
 unfold numT at h
 unfold numR numQ
 split at h
 ·rename_i hneg
  have hn:=h.next (kd:=3) (x:=[45])
  obtain ⟨h1,h2,h3⟩:=h.cons
  obtain ⟨k1,k2,k3⟩:=h3.cons
  obtain ⟨a1,a2⟩:=key z.natAbs (by omega)
  rw [hn]
  simp only [beq_self_eq_true,Bool.and_self,cond_true,k1,k2,a1,a2]
  refine ⟨p+1+1,?_,k3⟩
  rw [show (0:Int) - (z.natAbs:Int)=z by omega]
 ·rename_i hneg
  have hn:=h.next (kd:=3) (x:=[45])
  obtain ⟨h1,h2,h3⟩:=h.cons
  obtain ⟨a1,a2⟩:=key z.toNat (by omega)
  rw [hn]
  have:((2:Int) == 3)=false:=rfl
  simp only [this,Bool.false_and,cond_false,h1,h2,a1,a2,beq_self_eq_true,Bool.and_self,cond_true]
  refine ⟨p+1,?_,h3⟩
  rw [show (z.toNat:Int)=z by omega]
noncomputable def cT (c:Cnd):List V1:=[(1,c.cn),(3,sgnW c.cb)]++numT c.cl
theorem Dn.cnd {ts:List Tok} {p:Int} {c:Cnd} {L:List V1} (hc:cndB c=true) (h:Dn ts p (cT c++L)):∃ q,cndR ts p=⟨true,c,q⟩∧Dn ts q L:=by
  obtain ⟨_,z1,z2⟩:=cndB_facts hc
  unfold cT at h
  rw [List.append_assoc] at h
  obtain ⟨h1,h2⟩:=Dn.take (x:=[]) h (.inl rfl)
  have hs:∃ q,sgnR ts (p+1)=⟨true,c.cb,q⟩∧Dn ts q (numT c.cl++L):=by
    unfold sgnR
    have hn:=Dn.next (kd:=3) (x:=[60]) h2
    rw [hn]
    cases hb:c.cb with
    | true =>
      rw [hb] at h2
      exact ⟨_,rfl,h2.cons.2.2⟩
    | false =>
      rw [hb] at h2
      obtain ⟨g1,g2⟩:=Dn.take (x:=[62,61]) h2 (.inr rfl)
      refine ⟨p+1+1,?_,g2⟩
      rw [show ((3:Int) == 3&&sgnW false == [60])=false from rfl,cond_false,g1]
      rfl
  obtain ⟨q,h3,h4⟩:=hs
  obtain ⟨q2,h5,h6⟩:=Dn.num z1 z2 h4
  refine ⟨q2,?_,h6⟩
  unfold cndR
  simp only [h1,Res.bdT,h3,h5]
noncomputable def restT (l:List Cnd):List V1:=(l.map fun c=>(1,[97,110,100]) :: cT c).flatten
theorem Dn.cnds {ts : List Tok} : ∀ (l : List Cnd) (n : Nat) (p : Int) (acc : List Cnd) (c : Cnd) (kw : List UInt8) (L : List V1), cndB c = true → (∀ c ∈ l, cndB c = true) → l.length < n → Dn ts p ((1, kw) :: (cT c ++ (restT l ++ (1, [115, 101, 116]) :: L))) →
    ∃ q,cndsR ts n p acc=⟨true,acc++c :: l,q⟩∧Dn ts q ((1,[115,101,116]) :: L):=by
  intro l
  induction l with
  | nil =>
    intro n p acc c kw L hc _ hn h
    obtain ⟨n,rfl⟩:∃ n',n=n'+1:=⟨n - 1,by simp at hn; omega⟩
    obtain ⟨_,_,h1⟩:=h.cons
    obtain ⟨q,h2,h3⟩:=Dn.cnd hc h1
    refine ⟨q,?_,h3⟩
    unfold cndsR
    rw [h2]
    show (bif nextB ts q 1 [97,110,100] then _ else _)=_
    have h3':Dn ts q ((1,[115,101,116]) :: L):=h3
    rw [h3'.next]
    rfl
  | cons c' l ih =>
    intro n p acc c kw L hc hl hn h
    obtain ⟨n,rfl⟩:∃ n',n=n'+1:=⟨n - 1,by simp at hn; omega⟩
    obtain ⟨_,_,h1⟩:=h.cons
    obtain ⟨q,h2,h3⟩:=Dn.cnd hc h1
    have h3':Dn ts q ((1,[97,110,100]) :: (cT c'++(restT l++(1,[115,101,116]) :: L))):=by
      have e:restT (c' :: l)++(1,[115,101,116]) :: L=(1,[97,110,100]) :: (cT c'++(restT l++(1,[115,101,116]) :: L)):=by
        unfold restT
        simp
      rw [e] at h3
      exact h3
    obtain ⟨q2,h4,h5⟩:=ih n q (acc++[c]) c' _ L (hl c' (by simp)) (fun c hc=>hl c (by simp [hc])) (by simp at hn; omega) h3'
    refine ⟨q2,?_,h5⟩
    unfold cndsR
    rw [h2]
    show (bif nextB ts q 1 [97,110,100] then cndsR ts n q (acc++[c]) else _)=_
    rw [h3'.next]
    show cndsR ts n q (acc++[c])=_
    rw [h4]
    simp
noncomputable def whenT:List Cnd→List V1
 | []=>[]
 | c :: l=>(1,[119,104,101,110]) :: (cT c++restT l)
theorem Dn.len {ts:List Tok} {p:Int} {L:List V1} (h:Dn ts p L):L.length≤ts.length:=by
 have:=congrArg List.length h.2
 unfold vw at this
 rw [List.length_map,List.length_drop] at this
 omega
theorem restT_len (l:List Cnd):l.length≤(restT l).length:=by
  induction l with
  | nil=>exact Nat.le_refl _
  | cons c l ih =>
    have e:restT (c :: l)=(1,[97,110,100]) :: (cT c++restT l):=by
      unfold restT
      simp
    rw [e]
    simp only [List.length_cons,List.length_append]
    omega
theorem Dn.whenD {ts:List Tok} {p:Int} {w:List Cnd} {L:List V1} (hw:∀ c∈w,cndB c=true) (h:Dn ts p (whenT w++(1,[115,101,116]) :: L)):∃ q,whenR ts p=⟨true,w,q⟩∧Dn ts q ((1,[115,101,116]) :: L):=by
  unfold whenR
  cases w with
  | nil =>
    have h':Dn ts p ((1,[115,101,116]) :: L):=h
    rw [h'.next]
    exact ⟨p,rfl,h'⟩
  | cons c l =>
    have h':Dn ts p ((1,[119,104,101,110]) :: (cT c++(restT l++(1,[115,101,116]) :: L))):=by
      unfold whenT at h
      simpa using h
    rw [h'.next]
    have hlen:=h'.len
    have hr:=restT_len l
    simp only [List.length_cons,List.length_append] at hlen
    obtain ⟨q,h1,h2⟩:=Dn.cnds l (ts.length+1) p [] c _ L (hw c (by simp)) (fun c hc=>hw c (by simp [hc])) (by omega) h'
    exact ⟨q,h1,h2⟩
theorem ruleT_eq (r : Rule) : ruleT r = (1, [114, 117, 108, 101]) :: (1, r.rn) :: (whenT r.rw ++ (1, [115, 101, 116]) :: (1, r.rl) :: (1, [116, 111]) :: (numT r.rs ++ [(4, [])])) := by
  have hc:∀ (l:List Cnd) (i:Nat),0 < i→((cndsP i l).map (·.2)).flatten=restT l:=by
    intro l
    induction l with
    | nil=>intro i _; rfl
    | cons c l ih =>
      intro i hi
      unfold cndsP
      rw [List.map_append,List.flatten_append,ih (i+1) (by omega)]
      have e:restT (c :: l)=(1,[97,110,100]) :: (cT c++restT l):=by
        unfold restT
        simp
      rw [e]
      have hk:kwN i=[97,110,100]:=by
        unfold kwN
        rw [show Nat.beq i 0=false from nbeq_ne (by omega)]
        rfl
      unfold cndP cT
      rw [hk]
      simp
  have hw:((cndsP 0 r.rw).map (·.2)).flatten=whenT r.rw:=by
    cases r.rw with
    | nil=>rfl
    | cons c l =>
      unfold cndsP whenT
      rw [List.map_append,List.flatten_append,hc l 1 (by omega)]
      unfold cndP cT
      simp [kwN]
  unfold ruleT ruleP
  rw [List.map_append,List.map_append,List.flatten_append,List.flatten_append,hw]
  simp
theorem Dn.rule {ts:List Tok} {p:Int} {r:Rule} {L:List V1} (hr:ruleB r=true) (h:Dn ts p (ruleT r++L)):∃ q,rulR ts p=⟨true,r,q⟩∧Dn ts q L:=by
 obtain ⟨_,_,_,z1,z2,hc⟩:=ruleB_facts hr
 rw [ruleT_eq] at h
 have h:Dn ts p ((1,[114,117,108,101]) :: (1,r.rn) :: (whenT r.rw++(1,[115,101,116]) :: (1,r.rl) :: (1,[116,111]) :: (numT r.rs++(4,[]) :: L))):=by simpa using h
 obtain ⟨h1,h2⟩:=Dn.take (x:=[114,117,108,101]) h (.inr rfl)
 obtain ⟨h3,h4⟩:=Dn.take (x:=[]) h2 (.inl rfl)
 obtain ⟨q,h5,h6⟩:=Dn.whenD hc h4
 obtain ⟨h7,h8⟩:=Dn.take (x:=[115,101,116]) h6 (.inr rfl)
 obtain ⟨h9,h10⟩:=Dn.take (x:=[]) h8 (.inl rfl)
 obtain ⟨h11,h12⟩:=Dn.take (x:=[116,111]) h10 (.inr rfl)
 obtain ⟨q2,h13,h14⟩:=Dn.num (by omega) (by omega) h12
 obtain ⟨h15,h16⟩:=Dn.take (x:=[]) h14 (.inl rfl)
 refine ⟨q2+1,?_,h16⟩
 unfold rulR
 simp only [h1,Res.bdT,h3,h5,h7,h9,h11,h13,h15]
theorem par_valid {s:List UInt8} (h:uparE s=0):rulesB (uparL s)=true:=by
  unfold uparE at h
  cases he:tokE s == 0 with
  | false =>
    rw [he] at h
    simp only [cond_false] at h
    rw [h] at he
    cases he
  | true =>
    rw [he] at h
    simp only [cond_true] at h
    have hL:uparL s=parL (tokL s):=by unfold uparL; rw [he]; rfl
    rw [hL]
    unfold parL
    rw [h]
    unfold parE at h
    cases h1:(prgR (tokL s)).ok with
    | false=>rw [h1] at h; cases h
    | true =>
      rw [h1] at h
      cases h2:rulesB (prgR (tokL s)).v with
      | false=>rw [h2] at h; cases h
      | true=>exact h2
end Go.Proofs.YtlkfbblapimhoaaGreatDoor
