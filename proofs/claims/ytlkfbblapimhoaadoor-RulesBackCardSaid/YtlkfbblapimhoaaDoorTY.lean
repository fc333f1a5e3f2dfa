/- What is written is read back. -/
import Derived.Test.YtlkfbblapimhoaaDoorTX
namespace Go.Proofs.YtlkfbblapimhoaaDoor
set_option linter.unusedSectionVars false
set_option linter.unusedSimpArgs false
set_option linter.unusedVariables false
set_option maxRecDepth 100000
abbrev V1:=Int×List UInt8
noncomputable def vw (l:List Tok):List V1:=l.map fun t=>(t.kk,t.kt)
def Sep (r:List UInt8):Prop:=∃ q,r=32 :: q∨r=10 :: q
def GW (w:List UInt8) (v:List V1):Prop:=∀ r l c,Sep r→∃ l' c',(tokW (w++r) l c).bad=(tokW r l' c').bad∧vw (tokW (w++r) l c).l=v++vw (tokW r l' c').l
theorem one_tok {w:List UInt8} {k:Int} (hk:0 < k) (hk4:k≠4) (hw:w≠[]) (h:∀ r,Sep r→kindN (w++r)=(k,w.length)):GW w [(k,w)]:=by
  intro r l c hr
  obtain ⟨b,s,rfl⟩:∃ b s,w=b :: s:=by
    cases w with
    | nil=>exact absurd rfl hw
    | cons b s=>exact ⟨b,s,rfl⟩
  have hkd:=h r hr
  refine ⟨l,c+Int.ofNat (b :: s).length,?_⟩
  show (tokW (b :: (s++r)) l c).bad=_∧_
  rw [show b :: s++r=b :: (s++r) from rfl,tokW_cons b (s++r)]
  rw [show kindN (b :: (s++r))=(k,(b :: s).length) from hkd]
  simp only
  rw [iltF (by omega),show (k == 4)=false from beq_eq_false_iff_ne.2 hk4,show (k == 0)=false from beq_eq_false_iff_ne.2 (by omega)]
  simp only [cond_false]
  have hd:(b :: (s++r)).drop (b :: s).length=r:=by
    show List.drop (b :: s).length ((b :: s)++r)=r
    exact List.drop_left
  have ht:(b :: (s++r)).take (b :: s).length=b :: s:=by
    show List.take (b :: s).length ((b :: s)++r)=b :: s
    exact List.take_left
  rw [hd,ht]
  exact ⟨rfl,rfl⟩
theorem letter_not {z:Int} (h:letterB z=true):(z == 32)=false∧(z == 9)=false∧(z == 10)=false∧(z == 35)=false:=by
  unfold letterB at h
  simp only [Bool.or_eq_true,Bool.and_eq_true] at h
  have:65≤z:=by rcases h with h | h<;>have:=ileI h.1<;>omega
  simp only [beq_eq_false_iff_ne]
  omega
theorem digit_not {z:Int} (h:digitB z=true):(z == 32)=false∧(z == 9)=false∧(z == 10)=false∧(z == 35)=false∧letterB z=false:=by
  unfold digitB at h
  simp only [Bool.and_eq_true] at h
  have h1:=ileI h.1
  have h2:=ileI h.2
  simp only [beq_eq_false_iff_ne]
  refine ⟨by omega,by omega,by omega,by omega,?_⟩
  unfold letterB
  rw [ileF (show ¬ (97:Int)≤z by omega),ileF (show ¬ (65:Int)≤z by omega)]
  rfl
theorem kindN_letter {b:UInt8} {s:List UInt8} (h:letterB (byI b)=true) (hw:wordN (b :: s)≤20):kindN (b :: s)=(1,wordN (b :: s)):=by
  obtain ⟨a1,a2,a3,a4⟩:=letter_not h
  unfold kindN
  have hg:List.getD (b :: s) 0 0=b:=rfl
  rw [hg]
  simp only [a1,a2,a3,a4,h,Bool.or_self,cond_false,cond_true]
  rw [show ilt 20 (wordD (b :: s))=false from iltF (by unfold wordD; simp; omega)]
  rfl
theorem kindN_digit {b:UInt8} {s:List UInt8} (h:digitB (byI b)=true):kindN (b :: s)=(2,numeralN (b :: s)):=by
  obtain ⟨a1,a2,a3,a4,a5⟩:=digit_not h
  unfold kindN
  have hg:List.getD (b :: s) 0 0=b:=rfl
  rw [hg]
  simp only [a1,a2,a3,a4,a5,h,Bool.or_self,cond_false,cond_true]
theorem wordN_app {r:List UInt8} (hr:wordN r=0):∀ w:List UInt8,wordN w=w.length→wordN (w++r)=w.length:=by
  intro w
  induction w with
  | nil=>intro _; exact hr
  | cons b s ih =>
    intro h
    show wordN (b :: (s++r))=_
    unfold wordN at h ⊢
    cases hb:bodyB b with
    | false=>rw [hb] at h; simp at h
    | true =>
      rw [hb] at h
      simp only [cond_true,List.length_cons] at h ⊢
      rw [ih (by omega)]
theorem digN_app {r:List UInt8} (hr:digN r=0):∀ w:List UInt8,(∀ b∈w,digitB (byI b)=true)→digN (w++r)=w.length:=by
  intro w
  induction w with
  | nil=>intro _; exact hr
  | cons b s ih =>
    intro h
    show digN (b :: (s++r))=_
    unfold digN
    rw [h b (by simp),ih fun b hb=>h b (by simp [hb])]
    simp
theorem Sep.word {r:List UInt8} (h:Sep r):wordN r=0∧digN r=0∧fracB r=false:=by
  obtain ⟨q,rfl | rfl⟩:=h
  · exact ⟨by unfold wordN; rw [show bodyB 32=false by decide +kernel]; rfl,by unfold digN; rw [show digitB (byI 32)=false by decide +kernel]; rfl,rfl⟩
  · exact ⟨by unfold wordN; rw [show bodyB 10=false by decide +kernel]; rfl,by unfold digN; rw [show digitB (byI 10)=false by decide +kernel]; rfl,rfl⟩
theorem nameB_facts {w:List UInt8} (h:nameB w=true):∃ b s,w=b :: s∧letterB (byI b)=true∧wordN w=w.length∧w.length≤20:=by
  have hl:=nameB_len h
  unfold nameB at h
  simp only [Bool.and_eq_true] at h
  obtain ⟨h1,h2,h3,h4⟩:=h
  cases w with
  | nil=>simp at h1
  | cons b s =>
    refine ⟨b,s,rfl,h3,?_,hl⟩
    have:=eq_of_beq h4
    unfold wordD at this
    exact Int.ofNat.inj this
theorem GW.name {w:List UInt8} (h:nameB w=true):GW w [(1,w)]:=by
  obtain ⟨b,s,rfl,h1,h2,h3⟩:=nameB_facts h
  refine one_tok (by decide) (by decide) (by simp) fun r hr => ?_
  have hw:=wordN_app hr.word.1 _ h2
  show kindN (b :: (s++r))=_
  have hw':wordN (b :: (s++r))=(b :: s).length:=hw
  rw [kindN_letter h1 (by rw [hw']; exact h3),hw']
theorem GW.num {w:List UInt8} (hw:w≠[]) (h:∀ b∈w,digitB (byI b)=true):GW w [(2,w)]:=by
  refine one_tok (by decide) (by decide) hw fun r hr => ?_
  obtain ⟨b,s,rfl⟩:∃ b s,w=b :: s:=by
    cases w with
    | nil=>exact absurd rfl hw
    | cons b s=>exact ⟨b,s,rfl⟩
  obtain ⟨r1,r2,r3⟩:=hr.word
  have hd:=digN_app r2 _ h
  show kindN (b :: (s++r))=_
  rw [kindN_digit (h b (by simp))]
  have hd':digN (b :: (s++r))=(b :: s).length:=hd
  unfold numeralN
  rw [hd']
  have:(b :: (s++r)).drop (b :: s).length=r:=by
    show List.drop (b :: s).length ((b :: s)++r)=r
    exact List.drop_left
  rw [this,r3]
  rfl
theorem GW.ge:GW [62,61] [(3,[62,61])]:=one_tok (by decide) (by decide) (by simp) fun r hr=>by
  show kindN (62 :: 61 :: r)=(3,2)
  kernel_rfl
theorem GW.lt:GW [60] [(3,[60])]:=one_tok (by decide) (by decide) (by simp) fun r hr=>by
  obtain ⟨q,rfl | rfl⟩:=hr
  · show kindN (60 :: 32 :: q) = (3, 1)
    kernel_rfl
  · show kindN (60 :: 10 :: q) = (3, 1)
    kernel_rfl
theorem tokW_space (r:List UInt8) (l c:Int):tokW (32 :: r) l c=tokW r l (c+1):=by
  rw [tokW_cons,show kindN (32 :: r)=(0,1) by kernel_rfl]
  rfl
theorem tokW_line (r:List UInt8) (l c:Int):tokW (10 :: r) l c=(tokW r (l+1) 1).cons ⟨4,[],l,c⟩:=by
  rw [tokW_cons,show kindN (10 :: r)=(4,1) by kernel_rfl]
  rfl
theorem GW.neg {w:List UInt8} (hw:w≠[]) (h:∀ b∈w,digitB (byI b)=true):GW (45 :: w) [(3,[45]),(2,w)]:=by
  intro r l c hr
  obtain ⟨b,s,rfl⟩:∃ b s,w=b :: s:=by
    cases w with
    | nil=>exact absurd rfl hw
    | cons b s=>exact ⟨b,s,rfl⟩
  obtain ⟨l',c',h1,h2⟩:=GW.num hw h r l (c+1) hr
  refine ⟨l',c',?_⟩
  have e:tokW (45 :: (b :: s++r)) l c=(tokW (b :: s++r) l (c+1)).cons ⟨3,[45],l,c⟩:=by
    rw [tokW_cons,show kindN (45 :: (b :: s++r))=(3,1) by (show kindN (45 :: b :: (s++r))=(3,1)); kernel_rfl]
    rfl
  show (tokW (45 :: (b :: s++r)) l c).bad=_∧_
  rw [show 45 :: (b :: s)++r=45 :: (b :: s++r) from rfl,e]
  refine ⟨h1,?_⟩
  show (3,[45]) :: vw (tokW (b :: s++r) l (c+1)).l=_
  rw [h2]
  rfl
noncomputable def numT (z:Int):List V1:=if z < 0 then [(3,[45]),(2,Lib.decDigits z.natAbs)] else [(2,Lib.decDigits z.toNat)]
theorem dig_ok (u:Nat):Lib.decDigits u≠[]∧∀ b∈Lib.decDigits u,digitB (byI b)=true:=by
  refine ⟨digits_ne u,fun b hb => ?_⟩
  obtain ⟨h1,h2⟩:=digits_all u u (Nat.le_refl _) b hb
  unfold digitB byI
  rw [ileT (by simp; omega),ileT (by simp; omega)]
  rfl
theorem GW.int (z:Int):GW (Lib.itoa z) (numT z):=by
  unfold Lib.itoa numT
  split
  · exact GW.neg (dig_ok _).1 (dig_ok _).2
  · exact GW.num (dig_ok _).1 (dig_ok _).2
abbrev WP:=List UInt8×List V1
theorem tailT:∀ (ws:List WP),(∀ p∈ws,GW p.1 p.2)→∀ (q:List UInt8) (l c:Int),∃ l' c',(tokW (Lib.joinTail [32] (ws.map (·.1))++10 :: q) l c).bad=(tokW q l' c').bad∧vw (tokW (Lib.joinTail [32] (ws.map (·.1))++10 :: q) l c).l=(ws.map (·.2)).flatten++(4,[]) :: vw (tokW q l' c').l:=by
  intro ws
  induction ws with
  | nil =>
    intro _ q l c
    refine ⟨l+1,1,?_⟩
    show (tokW (10 :: q) l c).bad=_∧vw (tokW (10 :: q) l c).l=_
    rw [tokW_line]
    exact ⟨rfl,rfl⟩
  | cons p ws ih =>
    intro h q l c
    have hs:Sep (Lib.joinTail [32] (ws.map (·.1))++10 :: q):=by
      cases ws with
      | nil=>exact ⟨q,.inr rfl⟩
      | cons p' ws'=>exact ⟨_,.inl rfl⟩
    obtain ⟨l1,c1,h1,h2⟩:=h p (by simp) _ l (c+1) hs
    obtain ⟨l2,c2,h3,h4⟩:=ih (fun p hp=>h p (by simp [hp])) q l1 c1
    refine ⟨l2,c2,?_⟩
    have e:Lib.joinTail [32] ((p :: ws).map (·.1))++10 :: q=32 :: (p.1++(Lib.joinTail [32] (ws.map (·.1))++10 :: q)):=by simp [Lib.joinTail]
    rw [e,tokW_space,h1,h2,h3,h4]
    exact ⟨rfl,by simp⟩
theorem lineT (w:WP) (ws:List WP) (h:∀ p∈w :: ws,GW p.1 p.2) (q:List UInt8) (l c:Int):∃ l' c',(tokW (Lib.join ((w :: ws).map (·.1)) [32]++[10]++q) l c).bad=(tokW q l' c').bad∧vw (tokW (Lib.join ((w :: ws).map (·.1)) [32]++[10]++q) l c).l=((w :: ws).map (·.2)).flatten++(4,[]) :: vw (tokW q l' c').l:=by
  have hs:Sep (Lib.joinTail [32] (ws.map (·.1))++10 :: q):=by
    cases ws with
    | nil=>exact ⟨q,.inr rfl⟩
    | cons p' ws'=>exact ⟨_,.inl rfl⟩
  obtain ⟨l1,c1,h1,h2⟩:=h w (by simp) _ l c hs
  obtain ⟨l2,c2,h3,h4⟩:=tailT ws (fun p hp=>h p (by simp [hp])) q l1 c1
  refine ⟨l2,c2,?_⟩
  have e:Lib.join ((w :: ws).map (·.1)) [32]++[10]++q=w.1++(Lib.joinTail [32] (ws.map (·.1))++10 :: q):=by
    rw [List.map_cons,Lib.join_cons]
    simp
  rw [e,h1,h2,h3,h4]
  exact ⟨rfl,by simp⟩
noncomputable def cndP (i:Nat) (c:Cnd):List WP:=[(kwN i,[(1,kwN i)]),(c.cn,[(1,c.cn)]),(sgnW c.cb,[(3,sgnW c.cb)]),(Lib.itoa c.cl,numT c.cl)]
noncomputable def cndsP:Nat→List Cnd→List WP
  | _,[]=>[]
  | i,c :: l=>cndP i c++cndsP (i+1) l
noncomputable def ruleP (r:Rule):List WP:=[([114,117,108,101],[(1,[114,117,108,101])]),(r.rn,[(1,r.rn)])]++(cndsP 0 r.rw++[([115,101,116],[(1,[115,101,116])]),(r.rl,[(1,r.rl)]),([116,111],[(1,[116,111])]),(Lib.itoa r.rs,numT r.rs)])
theorem cndsP_fst:∀ (l:List Cnd) (i:Nat),(cndsP i l).map (·.1)=cndsW i l:=by
  intro l
  induction l with
  | nil=>intro i; rfl
  | cons c l ih=>intro i; simp only [cndsP,cndsW,List.map_append,ih]; rfl
theorem ruleP_fst (r:Rule):(ruleP r).map (·.1)=wordsL r:=by
  unfold ruleP wordsL
  rw [List.map_append,List.map_append,cndsP_fst]
  rfl
theorem kw_name (i:Nat):nameB (kwN i)=true:=by
  unfold kwN
  cases Nat.beq i 0<;>decide +kernel
theorem cndsP_ok : ∀ (l : List Cnd) (i : Nat), (∀ c ∈ l, cndB c = true) → ∀ p ∈ cndsP i l, GW p.1 p.2 := by
  intro l
  induction l with
  | nil=>intro i _ p hp; cases hp
  | cons c l ih =>
    intro i h p hp
    unfold cndsP at hp
    rcases List.mem_append.1 hp with hp | hp
    · have hc := (cndB_facts (h c (by simp))).1
      unfold cndP at hp
      simp only [List.mem_cons,List.not_mem_nil,or_false] at hp
      rcases hp with rfl | rfl | rfl | rfl
      · exact GW.name (kw_name i)
      · exact GW.name hc
      · show GW (sgnW c.cb) [(3, sgnW c.cb)]
        cases c.cb
        · exact GW.ge
        · exact GW.lt
      · exact GW.int _
    · exact ih (i+1) (fun c hc=>h c (by simp [hc])) p hp
theorem ruleP_ok {r:Rule} (h:ruleB r=true):∀ p∈ruleP r,GW p.1 p.2:=by
  obtain ⟨h1,h2,h3,h4,h5,h6⟩:=ruleB_facts h
  intro p hp
  unfold ruleP at hp
  simp only [List.mem_append,List.mem_cons,List.not_mem_nil,or_false] at hp
  rcases hp with (rfl | rfl) | hp | rfl | rfl | rfl | rfl
  · exact GW.name (by decide +kernel)
  · exact GW.name h1
  · exact cndsP_ok r.rw 0 h6 p hp
  · exact GW.name (by decide +kernel)
  · exact GW.name h2
  · exact GW.name (by decide +kernel)
  · exact GW.int _
noncomputable def ruleT (r:Rule):List V1:=((ruleP r).map (·.2)).flatten++[(4,[])]
theorem textT:∀ (l:List Rule),(∀ r∈l,ruleB r=true)→∀ (ln c:Int),(tokW (textJ l) ln c).bad=false∧vw (tokW (textJ l) ln c).l=(l.map ruleT).flatten++[(5,[])]:=by
  intro l
  induction l with
  | nil=>intro _ ln c; exact ⟨rfl,rfl⟩
  | cons r l ih =>
    intro h ln c
    obtain ⟨w,ws,hw⟩:∃ w ws,ruleP r=w :: ws:=⟨_,_,rfl⟩
    have hp:=ruleP_ok (h r (by simp))
    rw [hw] at hp
    obtain ⟨l1,c1,h1,h2⟩:=lineT w ws hp (textJ l) ln c
    obtain ⟨h3,h4⟩:=ih (fun r hr=>h r (by simp [hr])) l1 c1
    have e:textJ (r :: l)=Lib.join ((w :: ws).map (·.1)) [32]++[10]++textJ l:=by
      unfold textJ lineS
      rw [← hw,ruleP_fst]
      rfl
    rw [e,h1,h2,h3,h4]
    refine ⟨rfl,?_⟩
    simp only [List.map_cons,List.flatten_cons]
    unfold ruleT
    rw [hw]
    simp
end Go.Proofs.YtlkfbblapimhoaaDoor
